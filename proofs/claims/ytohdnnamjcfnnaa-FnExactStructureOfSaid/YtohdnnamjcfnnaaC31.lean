/- Cosets, and the parts of a graph. -/
import Derived.Test.YtohdnnamjcfnnaaC29
import Derived.Deep.RegionHeld3
import Derived.Deep.RegionWith
namespace Go.Zz
open Go.RowKit Go.Proofs
set_option maxHeartbeats 400000

--%call sIsSubgroupV 222 ext sIsSubgroup_val _ _ _ _ ({0}) ({1})
theorem sIsSubgroup_any (v : Value) (l : List Int) (a : Int) (w : World) (h : Ints w v l) :
    Calls Try.prog 222 #[.agg #[v], .int .i64 a] w fun e w' => e = .returned (.bool (subB l a)) ∧ Ext w w' := by
  obtain ⟨wb, hwb⟩ : ∃ wb, wb = w.alloc (.cells #[v] 28) := ⟨_, rfl⟩
  have hE0 := (Ext.refl w).alloc (.cells #[v] 28)
  have hb := box_cell w v 28
  rw [← hwb] at hE0 hb
  have hg : ∀ W, Ext wb W → Ints W v l := fun W hW => h.ext (hE0.trans hW)
  have hE := Ext.refl wb
  have Hsz : Hid (w.heap.size + 1 = wb.heap.size) := Lib.hid (by rw [hwb]; simp [go_sem])
  have Hwb := Lib.hid hwb
  clear hwb h
  have hbx := hb wb hE
  cases hs : isSetB l a
  · have Hs := Lib.hid (subB_no hs)
    go_enter Try.func222, Try.ntmps222
    go_wp2_with fail
    rw [← Hwb.out]
    go_wp2_with (first | (go_at_call 162; refine (sIsSet_val _ _ _ _ (hg _ hE) (hs)).mono ?_; rintro e w' ⟨rfl, hE'⟩; replace hE := hE.trans hE'; clear hE'))
    go_ret
    exact ⟨ret_bool Hs.out.symm, hE0.trans hE⟩
  · have Hs : Hid (∀ n : Nat, a = n → subB l a = ((genF l n : Int) == (n : Int))) := Lib.hid (fun n e => by subst e; exact subB_yes hs)
    obtain ⟨n, hn, h1, h2, hgr⟩ := isSetB_nat hs
    subst hn
    have Hgr := Lib.hid hgr
    clear hgr
    go_enter Try.func222, Try.ntmps222
    go_wp2_with fail
    rw [← Hwb.out]
    go_wp2_with (first | (go_at_call 162; refine (sIsSet_val _ _ _ _ (hg _ hE) (hs)).mono ?_; rintro e w' ⟨rfl, hE'⟩; replace hE := hE.trans hE'; clear hE') | (go_at_call 246; refine (l5Closure_any _ _ _ _ (hg _ hE) (Hgr) (h2)).mono ?_; rintro e w' ⟨rfl, hE'⟩; replace hE := hE.trans hE'; clear hE'))
    go_ret
    exact ⟨ret_bool (by rw [Hs.out n rfl]), hE0.trans hE⟩
theorem sIsSubgroup_val (v : Value) (l : List Int) (a : Int) (w : World) (h : Ints w v l) {b : Bool} (hb : subB l a = b) :
    Calls Try.prog 222 #[.agg #[v], .int .i64 a] w fun e w' => e = .returned (.bool b) ∧ Ext w w' := by
  subst hb; exact sIsSubgroup_any v l a w h
theorem subB_nat {l : List Int} {a : Int} (h : subB l a = true) : ∃ n : Nat, a = n ∧ n < 2 ^ ord l ∧ n < 2 ^ 24 ∧ isGrp l = true := by
  unfold subB at h
  exact isSetB_nat (Bool.and_eq_true_iff.1 h).1
end Go.Zz
