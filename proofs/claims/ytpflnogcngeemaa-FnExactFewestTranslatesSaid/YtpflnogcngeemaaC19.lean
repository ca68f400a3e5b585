/- Direct sums; fewest and most translates. -/
import Derived.Test.YtpflnogcngeemaaC18
import Derived.Deep.RegionHeld3
import Derived.Deep.RegionWith
namespace Go.Zz
open Go.RowKit Go.Proofs
set_option maxHeartbeats 400000

/-- whether all sums of two sets are different -/
def directF (l : List Int) (a x : Int) : Bool := isSetB l a && isSetB l x && decide (cnt (sumF l a.toNat x.toNat) = cnt a.toNat * cnt x.toNat)
theorem directF_no {l : List Int} {a x : Int} (h : (isSetB l a && isSetB l x) = false) : directF l a x = false := by unfold directF; rw [h]; rfl
theorem directF_yes {l : List Int} {a x : Nat} (h : (isSetB l a && isSetB l x) = true) : directF l a x = ((cnt (sumF l a x) : Int) == (cnt a : Int) * (cnt x : Int)) := by
  unfold directF; rw [h, Bool.eq_iff_iff]; simp; norm_cast
theorem prod_bd (a x : Nat) : 0 ≤ (cnt a : Int) * (cnt x : Int) ∧ (cnt a : Int) * (cnt x : Int) ≤ 576 := by
  have := Nat.mul_le_mul (cnt_le a) (cnt_le x)
  have e : ((cnt a * cnt x : Nat) : Int) = (cnt a : Int) * (cnt x : Int) := Int.natCast_mul _ _
  omega
theorem prod_wrap (a x : Nat) : IntKind.i64.wrap ((cnt a : Int) * (cnt x : Int)) = (cnt a : Int) * (cnt x : Int) := by
  have := prod_bd a x; exact IntWalk.i64_in _ (by omega)
--%call IsDirect 91 ext IsDirect_any _ _ _ _ _ ({0})
theorem IsDirect_any (v : Value) (l : List Int) (a x : Int) (w : World) (h : Ints w v l) :
    Calls Try.prog 91 #[.agg #[v], .int .i64 a, .int .i64 x] w fun e w' => e = .returned (.bool (directF l a x)) ∧ Ext w w' := by
  obtain ⟨wb, hwb⟩ : ∃ wb, wb = w.alloc (.cells #[v] 26) := ⟨_, rfl⟩
  have hE0 := (Ext.refl w).alloc (.cells #[v] 26)
  have hb := box_cell w v 26
  rw [← hwb] at hE0 hb
  have hg : ∀ W, Ext wb W → Ints W v l := fun W hW => h.ext (hE0.trans hW)
  have hE := Ext.refl wb
  have Hsz : Hid (w.heap.size + 1 = wb.heap.size) := Lib.hid (by rw [hwb]; simp [go_sem])
  have Hwb := Lib.hid hwb
  clear hwb h
  have har := areF_two l a x
  have hbx := hb wb hE
  cases hs : (isSetB l a && isSetB l x)
  · have Hs := Lib.hid (directF_no hs)
    rw [hs] at har
    clear hs
    go_enter Try.func91, Try.ntmps91
    go_wp2_with fail
    rw [← Hwb.out]; rw [Hsz.out]
    go_wp2_with (first | (go_at_call 85; refine Calls.mono (areSets_val _ _ _ _ _ (hg _ (by repeat (first | assumption | exact Ext.refl _ | (apply And.left; assumption) | apply Ext.drew | apply Ext.alloc))) (ints_two _ _ _ _) har) ?_; rintro e w' ⟨rfl, hE'⟩; replace hE := hE.trans (Ext.trans (by repeat (first | assumption | exact Ext.refl _ | (apply And.left; assumption) | apply Ext.drew | apply Ext.alloc)) hE'); clear hE'))
    go_ret
    exact ⟨ret_bool Hs.out.symm, hE0.trans hE⟩
  · obtain ⟨ha, hx⟩ := Bool.and_eq_true_iff.1 hs
    obtain ⟨a, rfl, -, ha, hgr⟩ := isSetB_nat ha
    obtain ⟨x, rfl, -, hx, -⟩ := isSetB_nat hx
    have Hs := Lib.hid (directF_yes hs)
    rw [hs] at har
    have Hgr := Lib.hid hgr
    have hsum := sumF_bd hgr a x
    have hpw := prod_wrap a x
    have hpb := prod_bd a x
    clear hs hgr
    go_enter Try.func91, Try.ntmps91
    go_wp2_with fail
    rw [← Hwb.out]; rw [Hsz.out]
    go_wp2_with (first | (go_at_call 85; refine Calls.mono (areSets_val _ _ _ _ _ (hg _ (by repeat (first | assumption | exact Ext.refl _ | (apply And.left; assumption) | apply Ext.drew | apply Ext.alloc))) (ints_two _ _ _ _) har) ?_; rintro e w' ⟨rfl, hE'⟩; replace hE := hE.trans (Ext.trans (by repeat (first | assumption | exact Ext.refl _ | (apply And.left; assumption) | apply Ext.drew | apply Ext.alloc)) hE'); clear hE') | (go_at_call 70; refine (sum_any _ _ _ _ _ (hg _ hE) (Hgr) (ha) (hx)).mono ?_; rintro e w' ⟨rfl, hE'⟩; replace hE := hE.trans hE'; clear hE') | (go_at_call 69; (first | (with_reducible refine (bits_any _ hsum _).mono ?_) | (with_reducible refine (bits_any _ ha _).mono ?_) | (with_reducible refine (bits_any _ hx _).mono ?_)); rintro e w' ⟨rfl, rfl⟩))
    go_ret
    exact ⟨ret_bool (by rw [Hs.out]), hE0.trans hE⟩
--%call sIsDirect 90 ext sIsDirect_any _ _ _ _ _ ({0})
theorem sIsDirect_any (v : Value) (l : List Int) (a x : Int) (w : World) (h : Ints w v l) :
    Calls Try.prog 90 #[.agg #[v], .int .i64 a, .int .i64 x] w fun e w' => e = .returned (.bool (directF l a x)) ∧ Ext w w' := by
  obtain ⟨wb, hwb⟩ : ∃ wb, wb = w.alloc (.cells #[v] 26) := ⟨_, rfl⟩
  have hE0 := (Ext.refl w).alloc (.cells #[v] 26)
  have hb := box_cell w v 26
  rw [← hwb] at hE0 hb
  have hg : ∀ W, Ext wb W → Ints W v l := fun W hW => h.ext (hE0.trans hW)
  have hE := Ext.refl wb
  have Hsz : Hid (w.heap.size + 1 = wb.heap.size) := Lib.hid (by rw [hwb]; simp [go_sem])
  have Hwb := Lib.hid hwb
  clear hwb h
  have hbx := hb wb hE
  cases hs1 : isSetB l a
  · have Hs := Lib.hid (directF_no (l := l) (a := a) (x := x) (by rw [hs1]; rfl))
    go_enter Try.func90, Try.ntmps90
    go_wp2_with fail
    rw [← Hwb.out]
    go_wp2_with (first | (go_at_call 76; refine (sIsSet_val _ _ _ _ (hg _ hE) (hs1)).mono ?_; rintro e w' ⟨rfl, hE'⟩; replace hE := hE.trans hE'; clear hE'))
    go_ret
    exact ⟨ret_bool Hs.out.symm, hE0.trans hE⟩
  · cases hs2 : isSetB l x
    · have Hs := Lib.hid (directF_no (l := l) (a := a) (x := x) (by rw [hs2]; simp))
      go_enter Try.func90, Try.ntmps90
      go_wp2_with fail
      rw [← Hwb.out]
      go_wp2_with (first | (go_at_call 76; (first | (with_reducible refine Calls.mono (sIsSet_val _ _ a _ (hg _ hE) hs1) ?_) | (with_reducible refine Calls.mono (sIsSet_val _ _ x _ (hg _ hE) hs2) ?_)); rintro e w' ⟨rfl, hE'⟩; replace hE := hE.trans hE'; clear hE'))
      go_ret
      exact ⟨ret_bool Hs.out.symm, hE0.trans hE⟩
    · obtain ⟨a, rfl, -, ha, hgr⟩ := isSetB_nat hs1
      obtain ⟨x, rfl, -, hx, -⟩ := isSetB_nat hs2
      have Hs := Lib.hid (directF_yes (l := l) (a := a) (x := x) (by rw [hs1, hs2]; rfl))
      have Hgr := Lib.hid hgr
      have hsum := sumF_bd hgr a x
      have hpw := prod_wrap a x
      have hpb := prod_bd a x
      clear hgr
      go_enter Try.func90, Try.ntmps90
      go_wp2_with fail
      rw [← Hwb.out]
      go_wp2_with (first | (go_at_call 76; (first | (with_reducible refine Calls.mono (sIsSet_val _ _ (a : Int) _ (hg _ hE) hs1) ?_) | (with_reducible refine Calls.mono (sIsSet_val _ _ (x : Int) _ (hg _ hE) hs2) ?_)); rintro e w' ⟨rfl, hE'⟩; replace hE := hE.trans hE'; clear hE') | (go_at_call 75; refine (l4Sum_any _ _ _ _ _ (hg _ hE) (Hgr) (ha) (hx)).mono ?_; rintro e w' ⟨rfl, hE'⟩; replace hE := hE.trans hE'; clear hE') | (go_at_call 74; (first | (with_reducible refine (l3Bits_any _ hsum _).mono ?_) | (with_reducible refine (l3Bits_any _ ha _).mono ?_) | (with_reducible refine (l3Bits_any _ hx _).mono ?_)); rintro e w' ⟨rfl, rfl⟩))
      go_ret
      exact ⟨ret_bool (by rw [Hs.out]), hE0.trans hE⟩
end Go.Zz
