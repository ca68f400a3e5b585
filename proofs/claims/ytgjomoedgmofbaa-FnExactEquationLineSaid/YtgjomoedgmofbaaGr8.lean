/- EqualGroups, MeetingBound. -/
import Derived.Test.YtgjomoedgmofbaaGr3
import Derived.Test.YtgjomoedgmofbaaGr2
import Derived.Test.YtgjomoedgmofbaaGr7
import Derived.Test.YtgjomoedgmofbaaGr5
import Derived.Deep.RegionHeld3
import Derived.Deep.RegionWith
namespace Go.Zz
open Go.RowKit Go.Proofs
set_option maxHeartbeats 400000

--%call EqualGroups 153 ext EqualGroups_any _ _ _ _ _ ({0}) ({1})
theorem EqualGroups_any (v u : Value) (l m : List Int) (w : World) (h : Ints w v l) (k : Ints w u m) :
    Calls Try.prog 153 #[.agg #[v], .agg #[u]] w fun e w' => e = .returned (.bool (decide (l = m))) ∧ Ext w w' := by
  have hE0 := ((Ext.refl w).alloc (.cells #[v] 26)).alloc (.cells #[u] 26)
  have hE := Ext.refl ((w.alloc (.cells #[v] 26)).alloc (.cells #[u] 26))
  have hI1 := h.ext hE0
  have hI2 := k.ext hE0
  clear h k
  go_enter Try.func153, Try.ntmps153
  go_wp2_with (first | (go_at_call 147; refine (slicesEqual_any _ _ _ _ _ (hI1) (hI2)).mono ?_; rintro e w' ⟨rfl, hE'⟩; replace hE := hE.trans hE'; clear hE'))
  go_ret
  exact ⟨ret_bool rfl, hE0.trans hE⟩

--%call sEqualGroups 142 ext sEqualGroups_any _ _ _ _ _ ({0}) ({1})
theorem sEqualGroups_any (v u : Value) (l m : List Int) (w : World) (h : Ints w v l) (k : Ints w u m) :
    Calls Try.prog 142 #[.agg #[v], .agg #[u]] w fun e w' => e = .returned (.bool (decide (l = m))) ∧ Ext w w' := by
  obtain ⟨ao, c, adr, rfl, hlen, hadr, hcell⟩ := h.op
  have hix := ints_index (c := c) elI szI hadr
  obtain ⟨ao2, c2, adr2, rfl, hlen2, hadr2, hcell2⟩ := k.op
  have hix2 := ints_index (c := c2) elI szI hadr2
  clear hadr hadr2 h k
  obtain ⟨wb, hwb⟩ : ∃ wb, wb = (w.alloc (.cells #[.slice ao l.length c] 26)).alloc (.cells #[.slice ao2 m.length c2] 26) := ⟨_, rfl⟩
  have hE0 := ((Ext.refl w).alloc (.cells #[.slice ao l.length c] 26)).alloc (.cells #[.slice ao2 m.length c2] 26)
  have k1 := cell_in (show wb.cell? ⟨w.heap.size, 0, none⟩ = some (.slice ao l.length c) by rw [hwb]; simp [go_sem])
  have k2 := cell_in (show wb.cell? ⟨w.heap.size + 1, 0, none⟩ = some (.slice ao2 m.length c2) by rw [hwb]; simp [go_sem])
  have k1L := fun U => k1 _ (lat_ext wb U)
  have k2L := fun U => k2 _ (lat_ext wb U)
  rw [← hwb] at hE0
  have hE := Ext.refl wb
  have Hwb := Lib.hid hwb
  clear hwb
  by_cases hl : l.length = m.length
  · have hl1 : ((l.length : Int) != (m.length : Int)) = false := by simp [hl]
    have Hl := Lib.hid hl
    clear hl
    go_enter Try.func142, Try.ntmps142
    go_wp2_with fail
    rw [← Hwb.out]
    go_loopw [5] (fun i wr => ∃ k : Nat, k ≤ l.length ∧ (∀ j, j < k → nth l j = nth m j) ∧ i = .int .i64 k ∧ Ext wb wr) (fun i _ => l.length - (intOf i).toNat)
    case atStart => exact ⟨0, by omega, by omega, rfl, hE⟩
    case round =>
      clear hE
      obtain ⟨k, hk, hall, rfl, hE⟩ := hrel
      have Hall := Lib.hid hall
      clear hall
      have k1' := k1 _ hE
      have k2' := k2 _ hE
      by_cases hlt : k < l.length
      · have hlt2 : k < m.length := by have := Hl.out; omega
        have hck := fun U => hcell k _ hlt (hE0.trans (lat_ext wb U))
        have hck2 := fun U => hcell2 k _ hlt2 (hE0.trans (lat_ext wb U))
        by_cases he : nth l k = nth m k
        · have he1 : (nth l k != nth m k) = false := by simp [he]
          have He := Lib.hid he
          clear he
          go_wp2_with fail
          (refine wp_region_lat (wb) (by kernel_rfl) (by kernel_rfl) hE ?_); (repeat (go_big_quiet_step (first | fail))); (refine wpQuiet_nil ?_); (intro W hE'); (replace hE := lat_of hE'); (clear hE')
          go_wp2_with fail
          go_roundw
          case rel => exact ⟨k + 1, by omega, fun j hj => by by_cases e : j = k; (subst e; exact He.out); exact Hall.out j (by omega), by go_num, hE⟩
          case measure => (simp [intOf]; omega)
        · have he1 : (nth l k != nth m k) = true := by simp [he]
          have He := Lib.hid he
          clear he
          go_wp2_with fail
          (refine wp_region_lat (wb) (by kernel_rfl) (by kernel_rfl) hE ?_); (repeat (go_big_quiet_step (first | fail))); (refine wpQuiet_nil ?_); (intro W hE'); (replace hE := lat_of hE'); (clear hE')
          go_wp2_with fail
          go_ret
          exact ⟨ret_bool (by symm; rw [decide_eq_false_iff_not]; intro e; exact He.out (by rw [e])), hE0.trans hE⟩
      · have hkl : k = l.length := by omega
        subst hkl
        go_wp2_with fail
        go_ret
        exact ⟨ret_bool (by symm; rw [decide_eq_true_iff]; exact ext_nth Hl.out Hall.out), hE0.trans hE⟩
  · have hl1 : ((l.length : Int) != (m.length : Int)) = true := by simp; omega
    have Hl := Lib.hid hl
    clear hl
    go_enter Try.func142, Try.ntmps142
    go_wp2_with fail
    rw [← Hwb.out]
    go_ret
    exact ⟨ret_bool (by symm; rw [decide_eq_false_iff_not]; intro e; exact Hl.out (by rw [e])), hE0⟩

/-- the bound of MeetingBound -/
def meetF (l : List Int) (a : Int) : Int := if isSetB l a && !(a == 0) then ((ord l : Int) + cnt a.toNat - 1) / cnt a.toNat else -1
theorem meetF_no {l : List Int} {a : Int} (h : isSetB l a = false) : meetF l a = -1 := by unfold meetF; rw [h]; rfl
theorem meetF_zero (l : List Int) : meetF l 0 = -1 := by unfold meetF; simp
theorem meetF_yes {l : List Int} {n : Nat} (h : isSetB l n = true) (h0 : 0 < n) : meetF l n = ((ord l : Int) + cnt n - 1) / cnt n := by
  unfold meetF
  have : ((n : Int) == 0) = false := by simp; omega
  rw [h, this]; simp
--%call MeetingBound 60 ext MeetingBound_any _ _ _ _ ({0})
theorem MeetingBound_any (v : Value) (l : List Int) (a : Int) (w : World) (h : Ints w v l) :
    Calls Try.prog 60 #[.agg #[v], .int .i64 a] w fun e w' => e = .returned (.int .i64 (meetF l a)) ∧ Ext w w' := by
  have hE0 := (Ext.refl w).alloc (.cells #[v] 26)
  have hE := Ext.refl (w.alloc (.cells #[v] 26))
  have hb := box_cell w v 26
  have hg : ∀ W, Ext (w.alloc (.cells #[v] 26)) W → Ints W v l := fun W hW => h.ext (hE0.trans hW)
  clear h
  cases hs : isSetB l a
  · have Hs := Lib.hid hs
    go_enter Try.func60, Try.ntmps60
    go_wp2_with (first | (go_at_call 144; refine (IsSet_any _ _ _ _ (hg _ hE)).mono ?_; rintro e w' ⟨rfl, hE'⟩; replace hE := hE.trans hE'; clear hE'))
    go_ret
    exact ⟨ret_int (meetF_no Hs.out).symm, hE0.trans hE⟩
  · obtain ⟨n, rfl, h1, h2, h3⟩ := isSetB_nat hs
    by_cases h0 : n = 0
    · subst h0
      go_enter Try.func60, Try.ntmps60
      go_wp2_with (first | (go_at_call 144; refine (IsSet_any _ _ _ _ (hg _ hE)).mono ?_; rintro e w' ⟨rfl, hE'⟩; replace hE := hE.trans hE'; clear hE'))
      go_ret
      exact ⟨ret_int (meetF_zero l).symm, hE0.trans hE⟩
    · have h0' : ((n : Int) == 0) = false := by simp; omega
      have hm := Lib.hid (meetF_yes hs (by omega))
      have hb1 := ord_bd h3
      have hb2 := cnt_pos (by omega) h2
      have hb3 := cnt_le n
      have ho := ordF_t h3
      have h3' := Lib.hid h3
      clear h3
      have hq1 : 0 ≤ (ord l : Int) + cnt n - 1 := by omega
      go_enter Try.func60, Try.ntmps60
      go_wp2_with (first | (go_at_call 144; refine (IsSet_any _ _ _ _ (hg _ hE)).mono ?_; rintro e w' ⟨rfl, hE'⟩; replace hE := hE.trans hE'; clear hE') | (go_at_call 108; refine (OrderOf_any _ _ _ (hg _ hE)).mono ?_; rintro e w' ⟨rfl, hE'⟩; replace hE := hE.trans hE'; clear hE') | (go_at_call 112; refine (bits_any _ (h2) _).mono ?_; rintro e w' ⟨rfl, rfl⟩))
      go_ret
      exact ⟨ret_int hm.out.symm, hE0.trans hE⟩
--%call sMeetingBound 61 ext sMeetingBound_any _ _ _ _ ({0})
theorem sMeetingBound_any (v : Value) (l : List Int) (a : Int) (w : World) (h : Ints w v l) :
    Calls Try.prog 61 #[.agg #[v], .int .i64 a] w fun e w' => e = .returned (.int .i64 (meetF l a)) ∧ Ext w w' := by
  have hE0 := (Ext.refl w).alloc (.cells #[v] 26)
  have hE := Ext.refl (w.alloc (.cells #[v] 26))
  have hb := box_cell w v 26
  have hg : ∀ W, Ext (w.alloc (.cells #[v] 26)) W → Ints W v l := fun W hW => h.ext (hE0.trans hW)
  clear h
  cases hs : isSetB l a
  · have Hs := Lib.hid hs
    go_enter Try.func61, Try.ntmps61
    go_wp2_with (first | (go_at_call 119; refine (sIsSet_any _ _ _ _ (hg _ hE)).mono ?_; rintro e w' ⟨rfl, hE'⟩; replace hE := hE.trans hE'; clear hE'))
    go_ret
    exact ⟨ret_int (meetF_no Hs.out).symm, hE0.trans hE⟩
  · obtain ⟨n, rfl, h1, h2, h3⟩ := isSetB_nat hs
    by_cases h0 : n = 0
    · subst h0
      go_enter Try.func61, Try.ntmps61
      go_wp2_with (first | (go_at_call 119; refine (sIsSet_any _ _ _ _ (hg _ hE)).mono ?_; rintro e w' ⟨rfl, hE'⟩; replace hE := hE.trans hE'; clear hE'))
      go_ret
      exact ⟨ret_int (meetF_zero l).symm, hE0.trans hE⟩
    · have h0' : ((n : Int) == 0) = false := by simp; omega
      have hm := Lib.hid (meetF_yes hs (by omega))
      have hb1 := ord_bd h3
      have hb2 := cnt_pos (by omega) h2
      have hb3 := cnt_le n
      have ho := trivial
      have h3' := Lib.hid h3
      clear h3
      have hq1 : 0 ≤ (ord l : Int) + cnt n - 1 := by omega
      go_enter Try.func61, Try.ntmps61
      go_wp2_with (first | (go_at_call 119; refine (sIsSet_any _ _ _ _ (hg _ hE)).mono ?_; rintro e w' ⟨rfl, hE'⟩; replace hE := hE.trans hE'; clear hE') | (go_at_call 115; refine (l2Order_any _ _ _ (hg _ hE) (h3')).mono ?_; rintro e w' ⟨rfl, hE'⟩; replace hE := hE.trans hE'; clear hE') | (go_at_call 117; refine (l3Bits_any _ (h2) _).mono ?_; rintro e w' ⟨rfl, rfl⟩))
      go_ret
      exact ⟨ret_int hm.out.symm, hE0.trans hE⟩
end Go.Zz

/- Kept: the laws' helpers, EqualKept. -/
namespace Go.Zz
open Go.RowKit Go.Proofs
set_option maxHeartbeats 400000

/-- a value of type Kept -/
def IsK (w : World) (c : Value) (l : List Int) (n : Int) (m : List Int) : Prop := ∃ v u, c = .agg #[v, .int .i64 n, u] ∧ Ints w v l ∧ Ints w u m
theorem IsK.ext {w w' : World} {c : Value} {l m : List Int} {n : Int} (h : IsK w c l n m) (hE : Ext w w') : IsK w' c l n m := by
  obtain ⟨v, u, rfl, h1, h2⟩ := h; exact ⟨v, u, rfl, h1.ext hE, h2.ext hE⟩
def szK (l m : List Int) (left : Int) : Int := if szL l left < 0 then -1 else szL m (szL l left)
theorem szL_cases (l : List Int) {left : Int} (h : 0 ≤ left) : szL l left = -1 ∨ (0 ≤ szL l left ∧ szL l left ≤ left) := by unfold szL; split <;> omega


def eqK (l m : List Int) (n : Int) (l' m' : List Int) (n' : Int) : Bool := decide (l = l' ∧ n = n' ∧ m = m')
--%call EqualKept 54 ext EqualKept_any _ _ _ _ _ _ _ _ _ ({0}) ({1})
theorem EqualKept_any (c d : Value) (l m : List Int) (n : Int) (l' m' : List Int) (n' : Int) (w : World) (h : IsK w c l n m) (k : IsK w d l' n' m') :
    Calls Try.prog 54 #[c, d] w fun e w' => e = .returned (.bool (eqK l m n l' m' n')) ∧ Ext w w' := by
  obtain ⟨v, u, rfl, hv, hu⟩ := h
  obtain ⟨v', u', rfl, hv', hu'⟩ := k
  obtain ⟨wb, hwb⟩ : ∃ wb, wb = (w.alloc (.cells #[v, .int .i64 n, u] 48)).alloc (.cells #[v', .int .i64 n', u'] 48) := ⟨_, rfl⟩
  have e0 : Ext w wb := by rw [hwb]; exact ((Ext.refl _).alloc _).alloc _
  have B0 : Blk wb w.heap.size 48 #[v, .int .i64 n, u] := by rw [hwb]; exact (Blk.new _ _ _).alloc _
  have B1 : Blk wb (w.heap.size + 1) 48 #[v', .int .i64 n', u'] := by rw [hwb]; simpa using Blk.new (w.alloc (.cells #[v, .int .i64 n, u] 48)) 48 #[v', .int .i64 n', u']
  have a1 := fun W (hW : Ext wb W) => (B0.ext hW).cell (i := 1) (v := .int .i64 n) rfl
  have a2 := fun W (hW : Ext wb W) => (B0.ext hW).cell (i := 2) (v := u) rfl
  have b1 := fun W (hW : Ext wb W) => (B1.ext hW).cell (i := 1) (v := .int .i64 n') rfl
  have b2 := fun W (hW : Ext wb W) => (B1.ext hW).cell (i := 2) (v := u') rfl
  have i1 := hv.ext e0
  have i2 := hv'.ext e0
  have i3 := hu.ext e0
  have i4 := hu'.ext e0
  have Hwb := Lib.hid hwb
  clear hwb hv hu hv' hu' B0 B1
  by_cases c1 : l = l'
  · have d1 : decide (l = l') = true := by simp [c1]
    have C1 := Lib.hid c1
    by_cases c2 : n = n'
    · have d2 : (n == n') = true := by simp [c2]
      have d2' : (n != n') = false := by simp [c2]
      have C2 := Lib.hid c2
      by_cases c3 : m = m'
      · have d3 : decide (m = m') = true := by simp [c3]
        have C3 := Lib.hid c3
        clear c1 c2 c3
        go_enter Try.func54, Try.ntmps54
        go_wp2_with fail
        rw [← Hwb.out]
        refine (EqualGroups_any _ _ _ _ _ i1 i2).mono ?_
        rintro e w1 ⟨rfl, hE⟩
        go_wp2_with fail
        refine (slicesEqual_any _ _ _ _ _ (i3.ext hE) (i4.ext hE)).mono ?_
        rintro e w2 ⟨rfl, hE2⟩
        go_wp2_with fail
        go_ret
        exact ⟨ret_bool (by unfold eqK; symm; rw [decide_eq_true_iff]; exact ⟨C1.out, C2.out, C3.out⟩), e0.trans (hE.trans hE2)⟩
      · have d3 : decide (m = m') = false := by simp [c3]
        have C3 := Lib.hid c3
        clear c1 c2 c3
        go_enter Try.func54, Try.ntmps54
        go_wp2_with fail
        rw [← Hwb.out]
        refine (EqualGroups_any _ _ _ _ _ i1 i2).mono ?_
        rintro e w1 ⟨rfl, hE⟩
        go_wp2_with fail
        refine (slicesEqual_any _ _ _ _ _ (i3.ext hE) (i4.ext hE)).mono ?_
        rintro e w2 ⟨rfl, hE2⟩
        go_wp2_with fail
        go_ret
        exact ⟨ret_bool (by unfold eqK; symm; rw [decide_eq_false_iff_not]; exact fun h => C3.out h.2.2), e0.trans (hE.trans hE2)⟩
    · have d2 : (n == n') = false := by simp [c2]
      have d2' : (n != n') = true := by simp [c2]
      have C2 := Lib.hid c2
      clear c1 c2
      go_enter Try.func54, Try.ntmps54
      go_wp2_with fail
      rw [← Hwb.out]
      refine (EqualGroups_any _ _ _ _ _ i1 i2).mono ?_
      rintro e w1 ⟨rfl, hE⟩
      go_wp2_with fail
      go_ret
      exact ⟨ret_bool (by unfold eqK; symm; rw [decide_eq_false_iff_not]; exact fun h => C2.out h.2.1), e0.trans hE⟩
  · have d1 : decide (l = l') = false := by simp [c1]
    have C1 := Lib.hid c1
    clear c1
    go_enter Try.func54, Try.ntmps54
    go_wp2_with fail
    rw [← Hwb.out]
    refine (EqualGroups_any _ _ _ _ _ i1 i2).mono ?_
    rintro e w1 ⟨rfl, hE⟩
    go_wp2_with fail
    go_ret
    exact ⟨ret_bool (by unfold eqK; symm; rw [decide_eq_false_iff_not]; exact fun h => C1.out h.1), e0.trans hE⟩
--%call sEqualKept 38 ext sEqualKept_any _ _ _ _ _ _ _ _ _ ({0}) ({1})
theorem sEqualKept_any (c d : Value) (l m : List Int) (n : Int) (l' m' : List Int) (n' : Int) (w : World) (h : IsK w c l n m) (k : IsK w d l' n' m') :
    Calls Try.prog 38 #[c, d] w fun e w' => e = .returned (.bool (eqK l m n l' m' n')) ∧ Ext w w' := by
  obtain ⟨v, u, rfl, hv, hu⟩ := h
  obtain ⟨v', u', rfl, hv', hu'⟩ := k
  obtain ⟨wb, hwb⟩ : ∃ wb, wb = (w.alloc (.cells #[v, .int .i64 n, u] 48)).alloc (.cells #[v', .int .i64 n', u'] 48) := ⟨_, rfl⟩
  have e0 : Ext w wb := by rw [hwb]; exact ((Ext.refl _).alloc _).alloc _
  have B0 : Blk wb w.heap.size 48 #[v, .int .i64 n, u] := by rw [hwb]; exact (Blk.new _ _ _).alloc _
  have B1 : Blk wb (w.heap.size + 1) 48 #[v', .int .i64 n', u'] := by rw [hwb]; simpa using Blk.new (w.alloc (.cells #[v, .int .i64 n, u] 48)) 48 #[v', .int .i64 n', u']
  have a1 := fun W (hW : Ext wb W) => (B0.ext hW).cell (i := 1) (v := .int .i64 n) rfl
  have a2 := fun W (hW : Ext wb W) => (B0.ext hW).cell (i := 2) (v := u) rfl
  have b1 := fun W (hW : Ext wb W) => (B1.ext hW).cell (i := 1) (v := .int .i64 n') rfl
  have b2 := fun W (hW : Ext wb W) => (B1.ext hW).cell (i := 2) (v := u') rfl
  have i1 := hv.ext e0
  have i2 := hv'.ext e0
  have i3 := hu.ext e0
  have i4 := hu'.ext e0
  have Hwb := Lib.hid hwb
  clear hwb hv hu hv' hu' B0 B1
  by_cases c1 : l = l'
  · have d1 : decide (l = l') = true := by simp [c1]
    have C1 := Lib.hid c1
    by_cases c2 : n = n'
    · have d2 : (n == n') = true := by simp [c2]
      have d2' : (n != n') = false := by simp [c2]
      have C2 := Lib.hid c2
      by_cases c3 : m = m'
      · have d3 : decide (m = m') = true := by simp [c3]
        have C3 := Lib.hid c3
        clear c1 c2 c3
        go_enter Try.func38, Try.ntmps38
        go_wp2_with fail
        rw [← Hwb.out]
        refine (sEqualGroups_any _ _ _ _ _ i1 i2).mono ?_
        rintro e w1 ⟨rfl, hE⟩
        go_wp2_with fail
        refine (l30Same_any _ _ _ _ _ (i3.ext hE) (i4.ext hE)).mono ?_
        rintro e w2 ⟨rfl, hE2⟩
        go_wp2_with fail
        go_ret
        exact ⟨ret_bool (by unfold eqK; symm; rw [decide_eq_true_iff]; exact ⟨C1.out, C2.out, C3.out⟩), e0.trans (hE.trans hE2)⟩
      · have d3 : decide (m = m') = false := by simp [c3]
        have C3 := Lib.hid c3
        clear c1 c2 c3
        go_enter Try.func38, Try.ntmps38
        go_wp2_with fail
        rw [← Hwb.out]
        refine (sEqualGroups_any _ _ _ _ _ i1 i2).mono ?_
        rintro e w1 ⟨rfl, hE⟩
        go_wp2_with fail
        refine (l30Same_any _ _ _ _ _ (i3.ext hE) (i4.ext hE)).mono ?_
        rintro e w2 ⟨rfl, hE2⟩
        go_wp2_with fail
        go_ret
        exact ⟨ret_bool (by unfold eqK; symm; rw [decide_eq_false_iff_not]; exact fun h => C3.out h.2.2), e0.trans (hE.trans hE2)⟩
    · have d2 : (n == n') = false := by simp [c2]
      have d2' : (n != n') = true := by simp [c2]
      have C2 := Lib.hid c2
      clear c1 c2
      go_enter Try.func38, Try.ntmps38
      go_wp2_with fail
      rw [← Hwb.out]
      refine (sEqualGroups_any _ _ _ _ _ i1 i2).mono ?_
      rintro e w1 ⟨rfl, hE⟩
      go_wp2_with fail
      go_ret
      exact ⟨ret_bool (by unfold eqK; symm; rw [decide_eq_false_iff_not]; exact fun h => C2.out h.2.1), e0.trans hE⟩
  · have d1 : decide (l = l') = false := by simp [c1]
    have C1 := Lib.hid c1
    clear c1
    go_enter Try.func38, Try.ntmps38
    go_wp2_with fail
    rw [← Hwb.out]
    refine (sEqualGroups_any _ _ _ _ _ i1 i2).mono ?_
    rintro e w1 ⟨rfl, hE⟩
    go_wp2_with fail
    go_ret
    exact ⟨ret_bool (by unfold eqK; symm; rw [decide_eq_false_iff_not]; exact fun h => C1.out h.1), e0.trans hE⟩
end Go.Zz

/- Plain laws: what the table of sums holds, and how it changes. -/
namespace Go.Zz
open Go.RowKit Go.Proofs
set_option maxHeartbeats 400000

def bumps (t : List Int) (S : List Nat) : List Int := S.foldl bump t
theorem bumps_len : ∀ (S : List Nat) (t : List Int), (bumps t S).length = t.length
  | [], _ => rfl
  | z :: S, t => by show (bumps (bump t z) S).length = _; rw [bumps_len S, bump_len]
theorem nth_bumps : ∀ (S : List Nat) (t : List Int) (z : Nat), (∀ x ∈ S, x < t.length) → nth (bumps t S) z = nth t z + (S.count z : Int)
  | [], t, z, _ => by simp [bumps]
  | x :: S, t, z, h => by
    show nth (bumps (bump t x) S) z = _
    rw [nth_bumps S _ z (fun y hy => by rw [bump_len]; exact h y (by simp [hy])), nth_bump t x z (h x (by simp)), List.count_cons]
    by_cases e : z = x
    · subst e; simp; omega
    · have e' : ¬ x = z := fun h => e h.symm
      simp [e, e']
def sumsL (l : List Int) (L M : List Nat) : List Nat := L.flatMap (fun x => M.map (fun y => addF l x y))
theorem bumps_append (t : List Int) (A B : List Nat) : bumps t (A ++ B) = bumps (bumps t A) B := by unfold bumps; rw [List.foldl_append]
theorem tabIn_bumps (l : List Int) (x : Nat) (t : List Int) (L : List Nat) : tabIn l x t L = bumps t (L.map (fun y => addF l x y)) := by
  unfold tabIn bumps; rw [List.foldl_map]
theorem tabOut_bumps (l : List Int) (b : Nat) : ∀ (L : List Nat) (t : List Int), tabOut l b t L = bumps t (sumsL l L (elems b))
  | [], _ => rfl
  | x :: L, t => by
    show tabOut l b (tabIn l x t (elems b)) L = _
    rw [tabOut_bumps l b L, tabIn_bumps]
    unfold sumsL; rw [List.flatMap_cons, bumps_append]
def tabN (l : List Int) (a b : Nat) : List Int := tabOut l b (List.replicate (ord l) 0) (elems a)
theorem tabN_len (l : List Int) (a b : Nat) : (tabN l a b).length = ord l := by unfold tabN; rw [tabOut_bumps, bumps_len]; simp
theorem sumsL_lt {l : List Int} (h : isGrp l = true) {L M : List Nat} : ∀ x ∈ sumsL l L M, x < ord l := by
  intro x hx
  obtain ⟨u, _, hv⟩ := List.mem_flatMap.1 hx
  obtain ⟨y, _, rfl⟩ := List.mem_map.1 hv
  exact addF_lt l (isGrp_ords h) _ _
theorem nth_zeros (n i : Nat) : nth (List.replicate n 0) i = 0 := by
  unfold nth
  simp only [List.getD_eq_getElem?_getD, List.getElem?_replicate]
  split <;> simp
theorem nth_tabN {l : List Int} (h : isGrp l = true) (a b z : Nat) : nth (tabN l a b) z = ((sumsL l (elems a) (elems b)).count z : Int) := by
  unfold tabN
  rw [tabOut_bumps, nth_bumps _ _ _ (by intro x hx; rw [List.length_replicate]; exact sumsL_lt h x hx), nth_zeros]; simp
/-- how often z is a sum -/
def cN (l : List Int) (L M : List Nat) (z : Nat) : Nat := (sumsL l L M).count z
theorem cN_cons (l : List Int) (x : Nat) (L M : List Nat) (z : Nat) : cN l (x :: L) M z = (M.map (fun y => addF l x y)).count z + cN l L M z := by
  unfold cN sumsL; rw [List.flatMap_cons, List.count_append]
theorem cN_cons_right (l : List Int) (x : Nat) (M : List Nat) (z : Nat) : ∀ L : List Nat, cN l L (x :: M) z = (L.map (fun u => addF l u x)).count z + cN l L M z
  | [] => by simp [cN, sumsL]
  | u :: L => by
    rw [cN_cons, cN_cons, cN_cons_right l x M z L, List.map_cons, List.map_cons, List.count_cons, List.count_cons]; omega
theorem cN_perm {l : List Int} {L L' M M' : List Nat} (hL : L.Perm L') (hM : M.Perm M') (z : Nat) : cN l L M z = cN l L' M' z := by
  have h1 : cN l L M z = cN l L' M z := (hL.flatMap_right _).count_eq z
  rw [h1]
  have h2 : ∀ K : List Nat, cN l K M z = cN l K M' z := by
    intro K
    induction K with
    | nil => rfl
    | cons u K ih => rw [cN_cons, cN_cons, ih, (hM.map _).count_eq z]
  exact h2 L'
theorem elems_put {a x : Nat} (hx : x < 24) (h : a.testBit x = false) : (elems (a ||| 2 ^ x)).Perm (x :: elems a) := by
  rw [List.perm_ext_iff_of_nodup (elems_nodup _) (List.nodup_cons.2 ⟨(fun e => absurd (mem_elems.1 e).2 (by rw [h]; simp)), elems_nodup a⟩)]
  intro i
  rw [mem_elems, List.mem_cons, mem_elems, Nat.testBit_or, Nat.testBit_two_pow]
  by_cases e : i = x
  · subst e; simp [hx]
  · have e' : ¬ x = i := fun h => e h.symm
    simp [e, e']
theorem cN_put {l : List Int} {a x : Nat} (hx : x < 24) (h : a.testBit x = false) (z : Nat) :
    cN l (elems (a ||| 2 ^ x)) (elems (a ||| 2 ^ x)) z = cN l (elems a) (elems a) z + 2 * ((elems a).map (fun y => addF l x y)).count z + (if addF l x x = z then 1 else 0) := by
  have hp := elems_put hx h
  rw [cN_perm hp hp, cN_cons, cN_cons_right, List.map_cons, List.count_cons]
  have e : (elems a).map (fun u => addF l u x) = (elems a).map (fun y => addF l x y) := by
    apply List.map_congr_left; intro u _; exact addF_comm l u x
  rw [e]
  by_cases e2 : addF l x x = z
  · simp [e2]; omega
  · simp [e2]; omega
/-- an amount is added at a place -/
def bumpN (t : List Int) (z : Nat) (m : Int) : List Int := t.set z (nth t z + m)
theorem bumpN_len (t : List Int) (z : Nat) (m : Int) : (bumpN t z m).length = t.length := by simp [bumpN]
theorem nth_bumpN (t : List Int) (z i : Nat) (m : Int) (hz : z < t.length) : nth (bumpN t z m) i = if i = z then nth t z + m else nth t i := by
  unfold bumpN nth
  simp only [List.getD_eq_getElem?_getD, List.getElem?_set]
  by_cases h : i = z
  · subst h; simp [hz]
  · have h' : ¬ z = i := fun e => h e.symm
    simp [h, h']
def chgL (l : List Int) (x : Nat) (n : Int) (t : List Int) (L : List Nat) : List Int := L.foldl (fun t y => bumpN t (addF l x y) (2 * n)) t
theorem chgL_snoc (l : List Int) (x : Nat) (n : Int) (t : List Int) (L : List Nat) (y : Nat) : chgL l x n t (L ++ [y]) = bumpN (chgL l x n t L) (addF l x y) (2 * n) := by
  unfold chgL; rw [List.foldl_append]; rfl
theorem chgL_len (l : List Int) (x : Nat) (n : Int) : ∀ (L : List Nat) (t : List Int), (chgL l x n t L).length = t.length
  | [], _ => rfl
  | y :: L, t => by show (chgL l x n (bumpN t (addF l x y) (2 * n)) L).length = _; rw [chgL_len l x n L, bumpN_len]
theorem nth_chgL {l : List Int} (h : isGrp l = true) (x : Nat) (n : Int) (z : Nat) : ∀ (L : List Nat) (t : List Int), t.length = ord l → nth (chgL l x n t L) z = nth t z + 2 * n * ((L.map (fun y => addF l x y)).count z : Int)
  | [], t, _ => by simp [chgL]
  | y :: L, t, hl => by
    have hz : addF l x y < t.length := by rw [hl]; exact addF_lt l (isGrp_ords h) _ _
    show nth (chgL l x n (bumpN t (addF l x y) (2 * n)) L) z = _
    rw [nth_chgL h x n z L _ (by rw [bumpN_len]; exact hl), nth_bumpN _ _ _ _ hz, List.map_cons, List.count_cons]
    by_cases e : z = addF l x y
    · subst e; simp [Int.mul_add]; omega
    · have e' : ¬ addF l x y = z := fun h => e h.symm
      simp [e, e']
def chgF (l : List Int) (x : Nat) (n : Int) (t : List Int) (L : List Nat) : List Int := bumpN (chgL l x n t L) (addF l x x) n
theorem chgF_len (l : List Int) (x : Nat) (n : Int) (t : List Int) (L : List Nat) : (chgF l x n t L).length = t.length := by unfold chgF; rw [bumpN_len, chgL_len]
theorem nth_chgF {l : List Int} (h : isGrp l = true) (x : Nat) (n : Int) (z : Nat) (L : List Nat) (t : List Int) (hl : t.length = ord l) :
    nth (chgF l x n t L) z = nth t z + 2 * n * ((L.map (fun y => addF l x y)).count z : Int) + (if addF l x x = z then n else 0) := by
  have hz : addF l x x < (chgL l x n t L).length := by rw [chgL_len, hl]; exact addF_lt l (isGrp_ords h) _ _
  unfold chgF
  rw [nth_bumpN _ _ _ _ hz]
  by_cases e : z = addF l x x
  · subst e; rw [nth_chgL h x n _ L t hl]; simp
  · have e' : ¬ addF l x x = z := fun h => e h.symm
    rw [if_neg e, if_neg e', nth_chgL h x n z L t hl]; omega
theorem tab_put {l : List Int} (h : isGrp l = true) {a x : Nat} (hx : x < 24) (hb : a.testBit x = false) : chgF l x 1 (tabN l a a) (elems a) = tabN l (a ||| 2 ^ x) (a ||| 2 ^ x) := by
  refine ext_nth (by rw [chgF_len, tabN_len, tabN_len]) fun z _ => ?_
  rw [nth_chgF h x 1 z _ _ (tabN_len l a a), nth_tabN h, nth_tabN h]
  have := cN_put (l := l) hx hb z
  unfold cN at this
  rw [this]
  push_cast
  by_cases e : addF l x x = z <;> simp [e]
theorem put_back {a x : Nat} (hb : a.testBit x = true) : andN a (2 ^ x) ||| 2 ^ x = a := by
  apply Nat.eq_of_testBit_eq; intro i
  rw [Nat.testBit_or, andN_bit, Nat.testBit_two_pow]
  by_cases e : x = i
  · subst e; simp [hb]
  · simp [e]
theorem andN_self_bit (a x : Nat) : (andN a (2 ^ x)).testBit x = false := by rw [andN_bit, Nat.testBit_two_pow]; simp
theorem tab_take {l : List Int} (h : isGrp l = true) {a x : Nat} (hx : x < 24) (hb : a.testBit x = true) : chgF l x (-1) (tabN l a a) (elems (andN a (2 ^ x))) = tabN l (andN a (2 ^ x)) (andN a (2 ^ x)) := by
  refine ext_nth (by rw [chgF_len, tabN_len, tabN_len]) fun z _ => ?_
  rw [nth_chgF h x (-1) z _ _ (tabN_len l a a), nth_tabN h, nth_tabN h]
  have := cN_put (l := l) hx (andN_self_bit a x) z
  rw [put_back hb] at this
  unfold cN at this
  rw [this]
  push_cast
  by_cases e : addF l x x = z <;> simp [e] <;> omega
theorem andN_none {a x : Nat} (hb : a.testBit x = false) : andN a (2 ^ x) = a := by
  apply Nat.eq_of_testBit_eq; intro i
  rw [andN_bit, Nat.testBit_two_pow]
  by_cases e : x = i
  · subst e; simp [hb]
  · simp [e]
/-- the places of positive numbers below k -/
def posTo (t : List Int) (k : Nat) : Nat := bset ((List.range k).filter (fun i => decide (0 < nth t i)))
theorem posTo_zero (t : List Int) : posTo t 0 = 0 := rfl
theorem posTo_yes {t : List Int} {k : Nat} (h : 0 < nth t k) : posTo t (k + 1) = posTo t k ||| 2 ^ k := by
  unfold posTo; rw [List.range_succ, List.filter_append]; simp only [List.filter_cons, List.filter_nil, h, decide_true, if_true]; exact bset_snoc _ _
theorem posTo_no {t : List Int} {k : Nat} (h : ¬ 0 < nth t k) : posTo t (k + 1) = posTo t k := by
  unfold posTo; rw [List.range_succ, List.filter_append]; simp [h]
theorem posTo_lt (t : List Int) (k : Nat) : posTo t k < 2 ^ k := by
  refine bset_lt fun x hx => ?_
  exact List.mem_range.1 (List.mem_filter.1 hx).1
theorem posTo_tab {l : List Int} (h : isGrp l = true) (a b : Nat) : posTo (tabN l a b) (ord l) = sumF l a b := by
  apply Nat.eq_of_testBit_eq; intro z
  refine bool_eq_of ?_
  unfold posTo
  rw [testBit_bset, decide_eq_true_iff, List.mem_filter, decide_eq_true_iff, nth_tabN h, testBit_sumF, List.mem_range]
  have e : 0 < ((sumsL l (elems a) (elems b)).count z : Int) ↔ z ∈ sumsL l (elems a) (elems b) := by
    rw [← List.count_pos_iff]; omega
  rw [e]
  constructor
  · rintro ⟨_, hz⟩
    obtain ⟨x, hx, hv⟩ := List.mem_flatMap.1 hz
    obtain ⟨y, hy, rfl⟩ := List.mem_map.1 hv
    exact ⟨x, y, (mem_elems.1 hx).1, (mem_elems.1 hx).2, (mem_elems.1 hy).1, (mem_elems.1 hy).2, rfl⟩
  · rintro ⟨x, y, h1, h2, h3, h4, rfl⟩
    exact ⟨addF_lt l (isGrp_ords h) _ _, List.mem_flatMap.2 ⟨x, mem_elems.2 ⟨h1, h2⟩, List.mem_map.2 ⟨y, mem_elems.2 ⟨h3, h4⟩, rfl⟩⟩⟩
/-- the sum of the squares of the first k -/
def sqTo (t : List Int) : Nat → Int
  | 0 => 0
  | k + 1 => sqTo t k + nth t k * nth t k
theorem sqTo_succ (t : List Int) (k : Nat) : sqTo t (k + 1) = sqTo t k + nth t k * nth t k := rfl
theorem sums_len (L M : List Nat) (l : List Int) : (sumsL l L M).length = L.length * M.length := by
  unfold sumsL
  induction L with
  | nil => simp
  | cons x L ih => rw [List.flatMap_cons, List.length_append, ih, List.length_map, List.length_cons, Nat.succ_mul]; omega
theorem tabN_bd {l : List Int} (h : isGrp l = true) (a b z : Nat) : 0 ≤ nth (tabN l a b) z ∧ nth (tabN l a b) z ≤ 576 := by
  rw [nth_tabN h]
  have h1 := List.count_le_length (a := z) (l := sumsL l (elems a) (elems b))
  rw [sums_len] at h1
  have h2 : (elems a).length * (elems b).length ≤ 24 * 24 := Nat.mul_le_mul (elems_len a) (elems_len b)
  omega
theorem sq_bd {x : Int} (h0 : 0 ≤ x) (h : x ≤ 576) : 0 ≤ x * x ∧ x * x ≤ 331776 :=
  ⟨Int.mul_nonneg h0 h0, by have := Int.mul_le_mul h h h0 (by omega : (0:Int) ≤ 576); omega⟩
theorem sqTo_bd {l : List Int} (h : isGrp l = true) (a b : Nat) : ∀ k, 0 ≤ sqTo (tabN l a b) k ∧ sqTo (tabN l a b) k ≤ 331776 * k
  | 0 => by simp [sqTo]
  | k + 1 => by
    have ih := sqTo_bd h a b k
    obtain ⟨h1, h2⟩ := tabN_bd h a b k
    have := sq_bd h1 h2
    rw [sqTo_succ]; push_cast; omega
theorem tabF_N {l : List Int} {a b : Nat} (h : (isSetB l a && isSetB l b) = true) : tabF l a b = tabN l a b := tabF_yes h
/-- whether counts are those that are kept -/
def keptB (l : List Int) (n : Int) (m : List Int) : Bool := isSetB l n && decide (m = tabF l n n)
theorem keptB_no {l : List Int} {n : Int} {m : List Int} (h : isSetB l n = false) : keptB l n m = false := by unfold keptB; rw [h]; rfl
theorem keptB_yes {l : List Int} {n : Int} {m : List Int} (h : isSetB l n = true) : keptB l n m = decide (m = tabF l n n) := by unfold keptB; rw [h]; rfl
theorem keptB_nat {l : List Int} {n : Int} {m : List Int} (h : keptB l n m = true) : ∃ a : Nat, n = a ∧ a < 2 ^ ord l ∧ a < 2 ^ 24 ∧ isGrp l = true ∧ m = tabN l a a ∧ isSetB l a = true := by
  unfold keptB at h
  obtain ⟨h1, h2⟩ := Bool.and_eq_true_iff.1 h
  obtain ⟨a, rfl, h3, h4, h5⟩ := isSetB_nat h1
  exact ⟨a, rfl, h3, h4, h5, by rw [of_decide_eq_true h2, tabF_N (by rw [h1]; rfl)], h1⟩
def engF (l : List Int) (n : Int) (m : List Int) : Int := if keptB l n m then sqTo m (ord l) else -1
theorem engF_no {l : List Int} {n : Int} {m : List Int} (h : keptB l n m = false) : engF l n m = -1 := by unfold engF; rw [h]; rfl
theorem engF_yes {l : List Int} {n : Int} {m : List Int} (h : keptB l n m = true) : engF l n m = sqTo m (ord l) := by unfold engF; rw [if_pos h]
def sukF (l : List Int) (n : Int) (m : List Int) : Int := if keptB l n m then (sumF l n.toNat n.toNat : Int) else -1
theorem sukF_no {l : List Int} {n : Int} {m : List Int} (h : keptB l n m = false) : sukF l n m = -1 := by unfold sukF; rw [h]; rfl
theorem sukF_yes {l : List Int} {a : Nat} {m : List Int} (h : keptB l a m = true) : sukF l a m = (sumF l a a : Int) := by unfold sukF; rw [if_pos h]; rfl
end Go.Zz

/- The table of sums of the reference; kept counts. -/
namespace Go.Zz
open Go.RowKit Go.Proofs
set_option maxHeartbeats 400000

theorem lat_cell {w : World} {p : Addr} {x : Value} (h : w.cell? p = some x) (U : World) : (Lat w U).cell? p = some x := (lat_ext w U).cell h
theorem sSumTable_any (v : Value) (l : List Int) (a b : Int) (w : World) (h : Ints w v l) :
    Calls Try.prog 149 #[.agg #[v], .int .i64 a, .int .i64 b] w fun e w' => ∃ u, e = .returned u ∧ Own 3 w w' u (tabF l a b) ∧ Ext w w' := by
  obtain ⟨wb, hwb⟩ : ∃ wb, wb = w.alloc (.cells #[v] 26) := ⟨_, rfl⟩
  have hE0 := (Ext.refl w).alloc (.cells #[v] 26)
  have hb := box_cell w v 26
  rw [← hwb] at hE0 hb
  have hg : ∀ W, Ext wb W → Ints W v l := fun W hW => h.ext (hE0.trans hW)
  have hE := Ext.refl wb
  have Hsz : Hid (w.heap.size + 1 = wb.heap.size) := Lib.hid (by rw [hwb]; simp [go_sem])
  have Hwb := Lib.hid hwb
  clear hwb h
  have hbx := hb wb hE
  cases hs : (isSetB l a && isSetB l b)
  · have Hs := Lib.hid (tabF_no hs)
    cases h1 : isSetB l a
    · go_enter Try.func149, Try.ntmps149
      go_wp2_with fail
      rw [← Hwb.out]; try rw [Hsz.out]
      go_wp2_with (first | (go_at_call 119; refine (sIsSet_val _ _ _ _ (hg _ hE) (h1)).mono ?_; rintro e w' ⟨rfl, hE'⟩; replace hE := hE.trans hE'; clear hE'))
      go_ret
      exact ⟨_, rfl, by rw [Hs.out]; exact own_made (by omega) (hE0.trans hE) [] rfl, (hE0.trans hE).alloc _⟩
    · have h2 : isSetB l b = false := by simpa [h1] using hs
      clear hs
      go_enter Try.func149, Try.ntmps149
      go_wp2_with fail
      rw [← Hwb.out]; try rw [Hsz.out]
      go_wp2_with (first | (go_at_call 119; (first | (with_reducible refine Calls.mono (sIsSet_val _ _ a _ (hg _ hE) h1) ?_) | (with_reducible refine Calls.mono (sIsSet_val _ _ b _ (hg _ hE) h2) ?_)); rintro e w' ⟨rfl, hE'⟩; replace hE := hE.trans hE'; clear hE'))
      go_ret
      exact ⟨_, rfl, by rw [Hs.out]; exact own_made (by omega) (hE0.trans hE) [] rfl, (hE0.trans hE).alloc _⟩
  · obtain ⟨h1, h2⟩ := Bool.and_eq_true_iff.1 hs
    obtain ⟨a, rfl, -, ha, hgr⟩ := isSetB_nat h1
    obtain ⟨b, rfl, -, hb', -⟩ := isSetB_nat h2
    have Hs := Lib.hid (tabF_yes hs)
    have Hgr := Lib.hid hgr
    have hob := ord_bd hgr
    clear hs hgr
    go_enter Try.func149, Try.ntmps149
    go_wp2_with fail
    rw [← Hwb.out]; try rw [Hsz.out]
    go_wp2_with (first | (go_at_call 119; (first | (with_reducible refine Calls.mono (sIsSet_val _ _ (a : Int) _ (hg _ hE) h1) ?_) | (with_reducible refine Calls.mono (sIsSet_val _ _ (b : Int) _ (hg _ hE) h2) ?_)); rintro e w' ⟨rfl, hE'⟩; replace hE := hE.trans hE'; clear hE') | (go_at_call 115; refine (l2Order_any _ _ _ (hg _ hE) (Hgr)).mono ?_; rintro e w' ⟨rfl, hE'⟩; replace hE := hE.trans hE'; clear hE') | (at_make; refine wp_make_ints slI rfl _ _ rfl wb _ (ord l) rfl rfl (by omega) hE ?_; intro w2 hO hE2))
    rename_i hgd
    refine (l3List_any a ha _).mono ?_
    rintro e w1 ⟨v1, rfl, hL, hE1⟩
    obtain ⟨aoL, cL, rfl⟩ := hL.nshape
    go_wp2_with fail
    refine (l3List_any b hb' _).mono ?_
    rintro e w3 ⟨v3, rfl, hM, hE3⟩
    obtain ⟨aoM, cM, rfl⟩ := hM.nshape
    obtain ⟨g, hgd⟩ : ∃ g, g = w'.heap.size := ⟨_, rfl⟩
    rw [← hgd] at hO ⊢
    clear hgd
    obtain ⟨_, hge, hg1, hg2⟩ := hO.row (by simp) (by omega)
    simp only [Option.some.injEq, Addr.mk.injEq, and_true] at hge
    subst hge
    have hg3 : g < w1.heap.size := Nat.lt_of_lt_of_le hg2 hE1.size
    replace hO := (hO.ext hE1).ext hE3
    replace hL := hL.ext hE3
    replace hE := hE2.trans (hE1.trans hE3)
    have hixO := row_index g (ord l) (ord l)
    have hall : ∀ y ∈ elems a, y < 24 := fun y hy => elems_lt hy
    have hlen := elems_len a
    have hallM : ∀ y ∈ elems b, y < 24 := fun y hy => elems_lt hy
    have hlenM := elems_len b
    clear hE1 hE2 hE3 h1 h2 hbx
    obtain ⟨M, hMd⟩ : ∃ M, M = elems b := ⟨_, rfl⟩
    rw [← hMd] at hM hallM hlenM ⊢
    have HMd := Lib.hid hMd
    clear hMd
    generalize elems a = L at hL hall hlen Hs ⊢
    go_wp2_with fail
    go_loopw [10] (fun i wr => ∃ k : Nat, k ≤ L.length ∧ i = .int .i64 k ∧ Own 3 wb wr (.slice (some ⟨g, 0, none⟩) (ord l) (ord l)) (tabOut l b (List.replicate (ord l) 0) (L.take k)) ∧ Own 3 w2 wr (.slice aoL L.length cL) (castL L) ∧ Own 3 w1 wr (.slice aoM M.length cM) (castL M) ∧ Ext wb wr) (fun i _ => L.length - (intOf i).toNat)
    case atStart => exact ⟨0, by omega, rfl, hO, hL, hM, hE⟩
    case round =>
      clear hE hO hL hM
      obtain ⟨k, hk, rfl, hO, hL, hM, hE⟩ := hrel
      by_cases hlt : k < L.length
      · have hx24 := hall _ (nthN_mem hlt)
        have Hsn := Lib.hid (tabOut_snoc l b (List.replicate (ord l) 0) (L.take k) (nthN L k))
        have Htk := Lib.hid (take_nthN L k hlt)
        have hLk : (L.take k).length ≤ 24 := by rw [List.length_take]; omega
        go_wp2_with fail
        go_loopw [11] (fun i wq => ∃ j : Nat, j ≤ M.length ∧ i = .int .i64 j ∧ Own 3 wb wq (.slice (some ⟨g, 0, none⟩) (ord l) (ord l)) (tabIn l (nthN L k) (tabOut l b (List.replicate (ord l) 0) (L.take k)) (M.take j)) ∧ Own 3 w2 wq (.slice aoL L.length cL) (castL L) ∧ Own 3 w1 wq (.slice aoM M.length cM) (castL M) ∧ Ext wb wq) (fun i _ => M.length - (intOf i).toNat)
        case atStart => exact ⟨0, by omega, rfl, hO, hL, hM, hE⟩
        case round =>
          clear hE hO hL hM
          obtain ⟨j, hj, rfl, hO, hL, hM, hE⟩ := hrel
          by_cases hlt2 : j < M.length
          · obtain ⟨gL, rfl, -, -⟩ := hL.row (castL_len L) (by omega)
            have hcL := lat_cell (hL.cellAt (castL_len L) hlt).1
            rw [castL_nth] at hcL
            have hixL := row_index gL L.length cL
            obtain ⟨gM, rfl, -, -⟩ := hM.row (castL_len M) (by omega)
            have hcM := lat_cell (hM.cellAt (castL_len M) hlt2).1
            rw [castL_nth] at hcM
            have hixM := row_index gM M.length cM
            have hbx := lat_cell (hb _ hE)
            have hy24 := hallM _ (nthN_mem hlt2)
            have Hsn2 := Lib.hid (tabIn_snoc l (nthN L k) (tabOut l b (List.replicate (ord l) 0) (L.take k)) (M.take j) (nthN M j))
            have Htk2 := Lib.hid (take_nthN M j hlt2)
            have hMj : (M.take j).length ≤ 24 := by rw [List.length_take]; omega
            have hfit := tab_fits Hgr.out (b := b) (x := nthN L k) hLk hMj (addF l (nthN L k) (nthN M j))
            have hzo := addF_lt l (isGrp_ords Hgr.out) (nthN L k) (nthN M j)
            have hT : Hid ((tabIn l (nthN L k) (tabOut l b (List.replicate (ord l) 0) (L.take k)) (M.take j)).length = ord l) := Lib.hid (by rw [tabIn_len, tabOut_len]; simp)
            generalize tabIn l (nthN L k) (tabOut l b (List.replicate (ord l) 0) (L.take k)) (M.take j) = T at hO hfit Hsn2 hT
            have hEb := hE
            clear hE
            have hE := Ext.refl wr
            go_wp2_with fail
            (refine wp_region_lat (wr) (by kernel_rfl) (by kernel_rfl) hE ?_); (repeat (go_big_quiet_step (first | (go_at_call 166; exact Calls.lat (l2Add_any _ _ _ _ _ ((hg _ (hEb.trans (lat_ext wr _)))) (Hgr) ((by omega)) ((by omega))))))); (refine wpQuiet_nil ?_); (intro W hE'); (replace hE := lat_of hE'); (clear hE')
            replace hO := hO.ext hE
            replace hL := hL.ext hE
            replace hM := hM.ext hE
            replace hEb := hEb.trans hE
            obtain ⟨hzc, hzf⟩ := hO.cellAt hT.out hzo
            clear hE hcL hcM hbx hixL hixM
            go_wp2_with fail
            go_roundw
            case rel =>
              refine ⟨j + 1, by omega, by go_num, ?_, hL.setCell_below hg2 _, hM.setCell_below hg3 _, hEb.setCell hg1 _⟩
              rw [Htk2.out, Hsn2.out]
              exact (hO.stored_grown hT.out _ _).1
            case measure => (simp [intOf]; omega)
          · have hkl : j = M.length := by omega
            subst hkl
            have hO' : Own 3 wb wr (.slice (some ⟨g, 0, none⟩) (ord l) (ord l)) (tabOut l b (List.replicate (ord l) 0) (L.take (k + 1))) := by
              rw [Htk.out, Hsn.out, ← HMd.out]; rw [List.take_length] at hO; exact hO
            go_wp2_with fail
            go_roundw
            case rel => exact ⟨k + 1, by omega, by go_num, hO', hL, hM, hE⟩
            case measure => (simp [intOf]; omega)
      · have hkl : k = L.length := by omega
        subst hkl
        rw [List.take_length, ← Hs.out] at hO
        go_wp2_with fail
        go_ret
        exact ⟨_, rfl, hO.mono hE0, hE0.trans hE⟩
end Go.Zz

/- Kept counts: IsKept. -/
namespace Go.Zz
open Go.RowKit Go.Proofs
set_option maxHeartbeats 400000

--%call IsKeptV 41 ext IsKept_val _ _ _ _ _ ({0}) ({1})
theorem IsKept_any (c : Value) (l m : List Int) (n : Int) (w : World) (h : IsK w c l n m) :
    Calls Try.prog 41 #[c] w fun e w' => e = .returned (.bool (keptB l n m)) ∧ Ext w w' := by
  obtain ⟨v, u, rfl, hv, hu⟩ := h
  obtain ⟨wb, hwb⟩ : ∃ wb, wb = w.alloc (.cells #[v, .int .i64 n, u] 48) := ⟨_, rfl⟩
  have hE0 : Ext w wb := by rw [hwb]; exact (Ext.refl _).alloc _
  have B0 : Blk wb w.heap.size 48 #[v, .int .i64 n, u] := by rw [hwb]; exact Blk.new _ _ _
  have b0 : ∀ W, Ext wb W → W.cell? ⟨w.heap.size, 0, none⟩ = some v := fun W hW => (B0.ext hW).cell (i := 0) rfl
  have b1 : ∀ W, Ext wb W → W.cell? ⟨w.heap.size, 1, none⟩ = some (.int .i64 n) := fun W hW => (B0.ext hW).cell (i := 1) rfl
  have b2 : ∀ W, Ext wb W → W.cell? ⟨w.heap.size, 2, none⟩ = some u := fun W hW => (B0.ext hW).cell (i := 2) rfl
  have hg : ∀ W, Ext wb W → Ints W v l := fun W hW => hv.ext (hE0.trans hW)
  have hg2 : ∀ W, Ext wb W → Ints W u m := fun W hW => hu.ext (hE0.trans hW)
  have hE := Ext.refl wb
  have Hsz : Hid (w.heap.size + 1 = wb.heap.size) := Lib.hid (by rw [hwb]; simp [go_sem])
  have Hwb := Lib.hid hwb
  clear hwb hv hu B0
  have z0 := b0 wb hE
  have z1 := b1 wb hE
  have z2 := b2 wb hE
  have hlt : w.heap.size < wb.heap.size := by have := Hsz.out; omega
  cases hs : isSetB l n
  · have Hs := Lib.hid (keptB_no (m := m) hs)
    go_enter Try.func41, Try.ntmps41
    go_wp2_with fail
    rw [← Hwb.out]
    replace z0 := fun U => b0 _ (lat_ext wb U)
    replace z1 := fun U => b1 _ (lat_ext wb U)
    replace z2 := fun U => b2 _ (lat_ext wb U)
    (refine wp_region_lat (wb) (by kernel_rfl) (by kernel_rfl) hE ?_); (repeat (go_big_quiet_step (first | (go_at_call 144; exact Calls.lat (IsSet_val _ _ _ _ (hg _ (lat_ext wb _)) hs))))); (refine wpQuiet_nil ?_); (intro W hE'); (replace hE := lat_of hE'); (clear hE')
    go_wp2_with fail
    go_ret
    exact ⟨ret_bool Hs.out.symm, hE0.trans hE⟩
  · have Hs := Lib.hid (keptB_yes (m := m) hs)
    cases hq : decide (m = tabF l n n)
    all_goals
      go_enter Try.func41, Try.ntmps41
      go_wp2_with fail
      rw [← Hwb.out]
      have hD := (Ext.refl (wb)).drew
      first | (go_region_held3 (fun W => Ext (wb) W ∧ W.cell? ⟨w.heap.size, 0, none⟩ = some v ∧ W.cell? ⟨w.heap.size, 1, none⟩ = some (.int .i64 n) ∧ W.cell? ⟨w.heap.size, 2, none⟩ = some u) (exact ⟨(by repeat (first | assumption | exact Ext.refl _ | (apply And.left; assumption) | apply Ext.drew | apply Ext.alloc)), b0 _ (by repeat (first | assumption | exact Ext.refl _ | (apply And.left; assumption) | apply Ext.drew | apply Ext.alloc)), b1 _ (by repeat (first | assumption | exact Ext.refl _ | (apply And.left; assumption) | apply Ext.drew | apply Ext.alloc)), b2 _ (by repeat (first | assumption | exact Ext.refl _ | (apply And.left; assumption) | apply Ext.drew | apply Ext.alloc))⟩) (first | (go_at_call 144; ((with_reducible refine Calls.mono (IsSet_val _ _ _ _ (hg _ (by repeat (first | assumption | exact Ext.refl _ | (apply And.left; assumption) | apply Ext.drew | apply Ext.alloc))) hs) ?_); rintro e wH0 ⟨rfl, hX0⟩; have hH0 := Ext.trans (a := wb) (by repeat (first | assumption | exact Ext.refl _ | (apply And.left; assumption) | apply Ext.drew | apply Ext.alloc)) hX0)) | (go_at_call 146; ((with_reducible refine Calls.mono (SumTable_any _ _ _ _ _ (hg _ (by repeat (first | assumption | exact Ext.refl _ | (apply And.left; assumption) | apply Ext.drew | apply Ext.alloc)))) ?_); rintro e wH1 ⟨vS, rfl, hOS, hX1⟩; have hH1 := Ext.trans (a := wb) (by repeat (first | assumption | exact Ext.refl _ | (apply And.left; assumption) | apply Ext.drew | apply Ext.alloc)) hX1)) | (go_at_call 147; ((with_reducible refine Calls.mono (slicesEqual_any _ _ _ _ _ (hg2 _ (by repeat (first | assumption | exact Ext.refl _ | (apply And.left; assumption) | apply Ext.drew | apply Ext.alloc))) (hOS.ints.ext (by repeat (first | assumption | exact Ext.refl _ | (apply And.left; assumption) | apply Ext.drew | apply Ext.alloc)))) ?_); rintro e wH2 ⟨rfl, hX2⟩; have hH2 := Ext.trans (a := wb) (by repeat (first | assumption | exact Ext.refl _ | (apply And.left; assumption) | apply Ext.drew | apply Ext.alloc)) hX2)))) | (fail "the region with calls")
      all_goals (go_wp2_with fail; go_ret; exact ⟨ret_bool (by rw [Hs.out, hq]), hE0.trans (by repeat (first | assumption | exact Ext.refl _ | (apply And.left; assumption) | apply Ext.drew | apply Ext.alloc))⟩)
theorem IsKept_val (c : Value) (l m : List Int) (n : Int) (w : World) (h : IsK w c l n m) {b : Bool} (hb : keptB l n m = b) :
    Calls Try.prog 41 #[c] w fun e w' => e = .returned (.bool b) ∧ Ext w w' := by
  subst hb; exact IsKept_any c l m n w h
--%call sIsKeptV 51 ext sIsKept_val _ _ _ _ _ ({0}) ({1})
theorem sIsKept_any (c : Value) (l m : List Int) (n : Int) (w : World) (h : IsK w c l n m) :
    Calls Try.prog 51 #[c] w fun e w' => e = .returned (.bool (keptB l n m)) ∧ Ext w w' := by
  obtain ⟨v, u, rfl, hv, hu⟩ := h
  obtain ⟨wb, hwb⟩ : ∃ wb, wb = w.alloc (.cells #[v, .int .i64 n, u] 48) := ⟨_, rfl⟩
  have hE0 : Ext w wb := by rw [hwb]; exact (Ext.refl _).alloc _
  have B0 : Blk wb w.heap.size 48 #[v, .int .i64 n, u] := by rw [hwb]; exact Blk.new _ _ _
  have b0 : ∀ W, Ext wb W → W.cell? ⟨w.heap.size, 0, none⟩ = some v := fun W hW => (B0.ext hW).cell (i := 0) rfl
  have b1 : ∀ W, Ext wb W → W.cell? ⟨w.heap.size, 1, none⟩ = some (.int .i64 n) := fun W hW => (B0.ext hW).cell (i := 1) rfl
  have b2 : ∀ W, Ext wb W → W.cell? ⟨w.heap.size, 2, none⟩ = some u := fun W hW => (B0.ext hW).cell (i := 2) rfl
  have hg : ∀ W, Ext wb W → Ints W v l := fun W hW => hv.ext (hE0.trans hW)
  have hg2 : ∀ W, Ext wb W → Ints W u m := fun W hW => hu.ext (hE0.trans hW)
  have hE := Ext.refl wb
  have Hsz : Hid (w.heap.size + 1 = wb.heap.size) := Lib.hid (by rw [hwb]; simp [go_sem])
  have Hwb := Lib.hid hwb
  clear hwb hv hu B0
  have z0 := b0 wb hE
  have z1 := b1 wb hE
  have z2 := b2 wb hE
  have hlt : w.heap.size < wb.heap.size := by have := Hsz.out; omega
  cases hs : isSetB l n
  · have Hs := Lib.hid (keptB_no (m := m) hs)
    go_enter Try.func51, Try.ntmps51
    go_wp2_with fail
    rw [← Hwb.out]
    replace z0 := fun U => b0 _ (lat_ext wb U)
    replace z1 := fun U => b1 _ (lat_ext wb U)
    replace z2 := fun U => b2 _ (lat_ext wb U)
    (refine wp_region_lat (wb) (by kernel_rfl) (by kernel_rfl) hE ?_); (repeat (go_big_quiet_step (first | (go_at_call 119; exact Calls.lat (sIsSet_val _ _ _ _ (hg _ (lat_ext wb _)) hs))))); (refine wpQuiet_nil ?_); (intro W hE'); (replace hE := lat_of hE'); (clear hE')
    go_wp2_with fail
    go_ret
    exact ⟨ret_bool Hs.out.symm, hE0.trans hE⟩
  · have Hs := Lib.hid (keptB_yes (m := m) hs)
    cases hq : decide (m = tabF l n n)
    all_goals
      go_enter Try.func51, Try.ntmps51
      go_wp2_with fail
      rw [← Hwb.out]
      have hD := (Ext.refl (wb)).drew
      first | (go_region_held3 (fun W => Ext (wb) W ∧ W.cell? ⟨w.heap.size, 0, none⟩ = some v ∧ W.cell? ⟨w.heap.size, 1, none⟩ = some (.int .i64 n) ∧ W.cell? ⟨w.heap.size, 2, none⟩ = some u) (exact ⟨(by repeat (first | assumption | exact Ext.refl _ | (apply And.left; assumption) | apply Ext.drew | apply Ext.alloc)), b0 _ (by repeat (first | assumption | exact Ext.refl _ | (apply And.left; assumption) | apply Ext.drew | apply Ext.alloc)), b1 _ (by repeat (first | assumption | exact Ext.refl _ | (apply And.left; assumption) | apply Ext.drew | apply Ext.alloc)), b2 _ (by repeat (first | assumption | exact Ext.refl _ | (apply And.left; assumption) | apply Ext.drew | apply Ext.alloc))⟩) (first | (go_at_call 119; ((with_reducible refine Calls.mono (sIsSet_val _ _ _ _ (hg _ (by repeat (first | assumption | exact Ext.refl _ | (apply And.left; assumption) | apply Ext.drew | apply Ext.alloc))) hs) ?_); rintro e wH0 ⟨rfl, hX0⟩; have hH0 := Ext.trans (a := wb) (by repeat (first | assumption | exact Ext.refl _ | (apply And.left; assumption) | apply Ext.drew | apply Ext.alloc)) hX0)) | (go_at_call 149; ((with_reducible refine Calls.mono (sSumTable_any _ _ _ _ _ (hg _ (by repeat (first | assumption | exact Ext.refl _ | (apply And.left; assumption) | apply Ext.drew | apply Ext.alloc)))) ?_); rintro e wH1 ⟨vS, rfl, hOS, hX1⟩; have hH1 := Ext.trans (a := wb) (by repeat (first | assumption | exact Ext.refl _ | (apply And.left; assumption) | apply Ext.drew | apply Ext.alloc)) hX1)) | (go_at_call 143; ((with_reducible refine Calls.mono (l30Same_any _ _ _ _ _ (hg2 _ (by repeat (first | assumption | exact Ext.refl _ | (apply And.left; assumption) | apply Ext.drew | apply Ext.alloc))) (hOS.ints.ext (by repeat (first | assumption | exact Ext.refl _ | (apply And.left; assumption) | apply Ext.drew | apply Ext.alloc)))) ?_); rintro e wH2 ⟨rfl, hX2⟩; have hH2 := Ext.trans (a := wb) (by repeat (first | assumption | exact Ext.refl _ | (apply And.left; assumption) | apply Ext.drew | apply Ext.alloc)) hX2)))) | (fail "the region with calls")
      all_goals (go_wp2_with fail; go_ret; exact ⟨ret_bool (by rw [Hs.out, hq]), hE0.trans (by repeat (first | assumption | exact Ext.refl _ | (apply And.left; assumption) | apply Ext.drew | apply Ext.alloc))⟩)
theorem sIsKept_val (c : Value) (l m : List Int) (n : Int) (w : World) (h : IsK w c l n m) {b : Bool} (hb : keptB l n m = b) :
    Calls Try.prog 51 #[c] w fun e w' => e = .returned (.bool b) ∧ Ext w w' := by
  subst hb; exact sIsKept_any c l m n w h
end Go.Zz

/- Marks in what is owned: groups. -/
namespace Go.Zz
open Go.RowKit Go.Proofs
/-- what lies in another block stays -/
theorem Own.kept {TI : TypeId} {w0 w w' : World} {v : Value} {l : List Int} {row : Option Nat} (h : Own TI w0 w v l) (hg : w.grownBy w' row) (hne : v.ownBlock = none ∨ v.ownBlock ≠ row) : Own TI w0 w' v l :=
  ⟨h.1.kept hg hne, h.2⟩
theorem blk_ne {TI : TypeId} {a b c d : World} {u v : Value} {l m : List Int} (h : Own TI a b u l) (k : Own TI c d v m) (hs : b.heap.size ≤ c.heap.size) : u.ownBlock = none ∨ u.ownBlock ≠ v.ownBlock := by
  cases hu : u.ownBlock with
  | none => exact Or.inl rfl
  | some i =>
    refine Or.inr fun e => ?_
    have h1 := (h.blk i hu).2
    have h2 := (k.blk i e.symm).1
    omega
theorem blk_ne' {TI : TypeId} {a b c d : World} {u v : Value} {l m : List Int} (h : Own TI a b u l) (k : Own TI c d v m) (hs : d.heap.size ≤ a.heap.size) : u.ownBlock = none ∨ u.ownBlock ≠ v.ownBlock := by
  cases hu : u.ownBlock with
  | none => exact Or.inl rfl
  | some i =>
    refine Or.inr fun e => ?_
    have h1 := (h.blk i hu).1
    have h2 := (k.blk i e.symm).2
    omega
end Go.Zz
