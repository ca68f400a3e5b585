/- Cosets of small doubling. -/
import Derived.Test.YtopokpamhojooaaC23
namespace Go.Zz
open Go.RowKit Go.Proofs
set_option maxHeartbeats 400000

def scD (l : List Int) (a : Int) : Int := if smallF l a then (sumF l a.toNat (oppF l a.toNat) : Int) else 0
def scS (l : List Int) (a : Int) : Int := if smallF l a then (sumF l a.toNat (sumF l a.toNat (oppF l a.toNat)) : Int) else 0
theorem sc_no {l : List Int} {a : Int} (h : smallF l a = false) : scD l a = 0 ∧ scS l a = 0 := by unfold scD scS; rw [h]; exact ⟨rfl, rfl⟩
theorem sc_yes {l : List Int} {n : Nat} (h : smallF l n = true) : scD l n = (sumF l n (oppF l n) : Int) ∧ scS l n = (sumF l n (sumF l n (oppF l n)) : Int) := by unfold scD scS; rw [h]; exact ⟨rfl, rfl⟩
theorem smallF_nat {l : List Int} {a : Int} (h : smallF l a = true) : ∃ n : Nat, a = n ∧ n < 2 ^ ord l ∧ n < 2 ^ 24 ∧ isGrp l = true ∧ isSetB l a = true := by
  unfold smallF at h
  have h1 := (Bool.and_eq_true_iff.1 (Bool.and_eq_true_iff.1 h).1).1
  obtain ⟨n, rfl, a, b, c⟩ := isSetB_nat h1
  exact ⟨n, rfl, a, b, c, h1⟩
--%call IsSmallV 92 ext IsSmallDoubling_val _ _ _ _ ({0}) ({1})
theorem IsSmallDoubling_val (v : Value) (l : List Int) (a : Int) (w : World) (h : Ints w v l) {b : Bool} (hb : smallF l a = b) :
    Calls Try.prog 92 #[.agg #[v], .int .i64 a] w fun e w' => e = .returned (.bool b) ∧ Ext w w' := by
  subst hb; exact IsSmallDoubling_any v l a w h
--%call sIsSmallV 77 ext sIsSmallDoubling_val _ _ _ _ ({0}) ({1})
theorem sIsSmallDoubling_val (v : Value) (l : List Int) (a : Int) (w : World) (h : Ints w v l) {b : Bool} (hb : smallF l a = b) :
    Calls Try.prog 77 #[.agg #[v], .int .i64 a] w fun e w' => e = .returned (.bool b) ∧ Ext w w' := by
  subst hb; exact sIsSmallDoubling_any v l a w h
--%call sDiff 78 ext sDifferenceOfSets_nat _ _ _ _ _ ({0}) ({1}) ({2})
theorem sDifferenceOfSets_nat (v : Value) (l : List Int) (a b : Nat) (w : World) (h : Ints w v l) (ha : isSetB l a = true) (hb' : isSetB l b = true) :
    Calls Try.prog 78 #[.agg #[v], .int .i64 a, .int .i64 b] w fun e w' => e = .returned (.int .i64 (sumF l a (oppF l b))) ∧ Ext w w' := by
  obtain ⟨wb, hwb⟩ : ∃ wb, wb = w.alloc (.cells #[v] 30) := ⟨_, rfl⟩
  have hE0 := (Ext.refl w).alloc (.cells #[v] 30)
  have hb := box_cell w v 30
  rw [← hwb] at hE0 hb
  have hg : ∀ W, Ext wb W → Ints W v l := fun W hW => h.ext (hE0.trans hW)
  have hE := Ext.refl wb
  have Hsz : Hid (w.heap.size + 1 = wb.heap.size) := Lib.hid (by rw [hwb]; simp [go_sem])
  have Hwb := Lib.hid hwb
  clear hwb h
  obtain ⟨a', e1, -, ha2, hgr⟩ := isSetB_nat ha
  obtain ⟨b', e2, -, hb2, -⟩ := isSetB_nat hb'
  obtain rfl : a = a' := by omega
  obtain rfl : b = b' := by omega
  have hbx := fun U => hb _ (lat_ext wb U)
  have hbx1 := hb wb hE
  have Hgr := Lib.hid hgr
  have ho := oppF_bd hgr b
  clear hgr e1 e2
  go_enter Try.func78, Try.ntmps78
  go_wp2_with fail
  rw [← Hwb.out]
  go_wp2_with (first | (go_at_call 107; (first | (with_reducible refine Calls.mono (sIsSet_val _ _ (a : Int) _ (hg _ hE) ha) ?_) | (with_reducible refine Calls.mono (sIsSet_val _ _ (b : Int) _ (hg _ hE) hb') ?_)); rintro e w' ⟨rfl, hE'⟩; replace hE := hE.trans hE'; clear hE'))
  (refine wp_region_lat (wb) (by kernel_rfl) (by kernel_rfl) hE ?_); (repeat (go_big_quiet_step (first | (go_at_call 136; exact Calls.lat (l3Negate_any _ _ _ _ (hg _ (lat_ext wb _)) (Hgr) (hb2))) | (go_at_call 67; exact Calls.lat (l4Sum_any _ _ _ _ _ (hg _ (lat_ext wb _)) (Hgr) (ha2) (ho)))))); (refine wpQuiet_nil ?_); (intro W hE'); (replace hE := lat_of hE'); (clear hE')
  go_wp2_with fail
  go_ret
  exact ⟨rfl, hE0.trans hE⟩
end Go.Zz
