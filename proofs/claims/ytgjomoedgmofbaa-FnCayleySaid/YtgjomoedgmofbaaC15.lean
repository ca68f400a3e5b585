/- Coverings, small doubling, sizes of intersections. -/
import Derived.Test.YtgjomoedgmofbaaC14
import Derived.Deep.RegionHeld3
import Derived.Deep.RegionWith
namespace Go.Zz
open Go.RowKit Go.Proofs
set_option maxHeartbeats 400000

theorem ints_two (w : World) (a b : Int) (T : TypeId) : Ints (w.alloc (.cells #[.int .i64 a, .int .i64 b] T)) (.slice (some ⟨w.heap.size, 0, none⟩) 2 2) [a, b] := by
  refine ⟨_, 2, rfl, Nat.le_refl _, by simp, fun i hi => ⟨_, rfl, ?_⟩⟩
  match i, hi with
  | 0, _ => simp [go_sem, nth, Addr.add]
  | 1, _ => simp [go_sem, nth, Addr.add]
theorem areF_two (l : List Int) (a b : Int) : areF l [a, b] = (isSetB l a && isSetB l b) := by
  unfold areF
  cases h : isSetB l a
  · simp [h]
  · simp [h, isSetB_grp h]
--%call areSetsV 158 ext areSets_val _ _ _ _ _ ({0}) ({1}) ({2})
theorem areSets_val (v u : Value) (l xs : List Int) (w : World) (h : Ints w v l) (k : Ints w u xs) {b : Bool} (hb : areF l xs = b) :
    Calls Try.prog 158 #[.agg #[v], u] w fun e w' => e = .returned (.bool b) ∧ Ext w w' := by
  subst hb; exact areSets_any v u l xs w h k
/-- whether the shifts of a by x fill the group -/
def covF (l : List Int) (a x : Int) : Bool := isSetB l a && isSetB l x && decide ((sumF l a.toNat x.toNat : Int) = fullF l)
theorem covF_no {l : List Int} {a x : Int} (h : (isSetB l a && isSetB l x) = false) : covF l a x = false := by unfold covF; rw [h]; rfl
theorem covF_yes {l : List Int} {a x : Nat} (h : (isSetB l a && isSetB l x) = true) : covF l a x = ((sumF l a x : Int) == fullF l) := by
  unfold covF; rw [h, Bool.eq_iff_iff]; simp
set_option maxHeartbeats 4000000 in
--%call IsCovering 63 ext IsCovering_any _ _ _ _ _ ({0})
theorem IsCovering_any (v : Value) (l : List Int) (a x : Int) (w : World) (h : Ints w v l) :
    Calls Try.prog 63 #[.agg #[v], .int .i64 a, .int .i64 x] w fun e w' => e = .returned (.bool (covF l a x)) ∧ Ext w w' := by
  obtain ⟨wb, hwb⟩ : ∃ wb, wb = w.alloc (.cells #[v] 26) := ⟨_, rfl⟩
  have hE0 := (Ext.refl w).alloc (.cells #[v] 26)
  have hb := box_cell w v 26
  rw [← hwb] at hE0 hb
  have hg : ∀ W, Ext wb W → Ints W v l := fun W hW => h.ext (hE0.trans hW)
  have hE := Ext.refl wb
  have Hwb := Lib.hid hwb
  clear hwb h
  have har := areF_two l a x
  cases hs : (isSetB l a && isSetB l x)
  · have Hs := Lib.hid (covF_no hs)
    rw [hs] at har
    clear hs
    go_enter Try.func63, Try.ntmps63
    go_wp2_with fail
    rw [← Hwb.out]
    have hbx := hb wb hE
    have hlt : w.heap.size < wb.heap.size := by rw [Hwb.out]; simp [go_sem]
    first | (go_region_with (go_at_call 158; (with_reducible refine Calls.mono (areSets_val _ _ _ _ _ (hg _ (by repeat (first | assumption | exact Ext.refl _ | (apply And.left; assumption) | apply Ext.drew | apply Ext.alloc))) ((ints_two _ _ _ _).ext (by repeat (first | assumption | exact Ext.refl _ | (apply And.left; assumption) | apply Ext.drew | apply Ext.alloc))) har) ?_); rintro e w1 ⟨rfl, hX⟩; replace hX := Ext.trans (a := wb) (by repeat (first | assumption | exact Ext.refl _ | (apply And.left; assumption) | apply Ext.drew | apply Ext.alloc)) hX)) | (fail "the region")
    all_goals (go_wp2_with fail; go_ret; exact ⟨ret_bool Hs.out.symm, hE0.trans (by repeat (first | assumption | exact Ext.refl _ | (apply And.left; assumption) | apply Ext.drew | apply Ext.alloc))⟩)
  · obtain ⟨ha, hx⟩ := Bool.and_eq_true_iff.1 hs
    obtain ⟨a, rfl, -, ha, hgr⟩ := isSetB_nat ha
    obtain ⟨x, rfl, -, hx, -⟩ := isSetB_nat hx
    have Hs := Lib.hid (covF_yes hs)
    rw [hs] at har
    have Hgr := Lib.hid hgr
    clear hs hgr
    cases hq : ((sumF l a x : Int) == fullF l)
    all_goals
      go_enter Try.func63, Try.ntmps63
      go_wp2_with fail
      rw [← Hwb.out]
      have hD := (Ext.refl (wb)).drew
      first | (go_region_held3 (fun W => Ext (wb) W ∧ W.cell? ⟨w.heap.size, 0, none⟩ = some v) (exact ⟨(by repeat (first | assumption | exact Ext.refl _ | (apply And.left; assumption) | apply Ext.drew | apply Ext.alloc)), hb _ (by repeat (first | assumption | exact Ext.refl _ | (apply And.left; assumption) | apply Ext.drew | apply Ext.alloc))⟩) (first | (go_at_call 158; ((with_reducible refine Calls.mono (areSets_val _ _ _ _ _ (hg _ (by repeat (first | assumption | exact Ext.refl _ | (apply And.left; assumption) | apply Ext.drew | apply Ext.alloc))) ((ints_two _ _ _ _).ext (by repeat (first | assumption | exact Ext.refl _ | (apply And.left; assumption) | apply Ext.drew | apply Ext.alloc))) har) ?_); rintro e wH0 ⟨rfl, hX0⟩; have hH0 := Ext.trans (a := wb) (by repeat (first | assumption | exact Ext.refl _ | (apply And.left; assumption) | apply Ext.drew | apply Ext.alloc)) hX0)) | (go_at_call 113; ((with_reducible refine Calls.mono (sum_any _ _ _ _ _ (hg _ (by repeat (first | assumption | exact Ext.refl _ | (apply And.left; assumption) | apply Ext.drew | apply Ext.alloc))) Hgr ha hx) ?_); rintro e wH1 ⟨rfl, hX1⟩; have hH1 := Ext.trans (a := wb) (by repeat (first | assumption | exact Ext.refl _ | (apply And.left; assumption) | apply Ext.drew | apply Ext.alloc)) hX1)) | (go_at_call 155; ((with_reducible refine Calls.mono (FullSet_any _ _ _ (hg _ (by repeat (first | assumption | exact Ext.refl _ | (apply And.left; assumption) | apply Ext.drew | apply Ext.alloc)))) ?_); rintro e wH2 ⟨rfl, hX2⟩; have hH2 := Ext.trans (a := wb) (by repeat (first | assumption | exact Ext.refl _ | (apply And.left; assumption) | apply Ext.drew | apply Ext.alloc)) hX2)))) | (fail "the region with calls")
      all_goals (go_wp2_with fail; go_ret; exact ⟨ret_bool (by rw [Hs.out, hq]), hE0.trans (by repeat (first | assumption | exact Ext.refl _ | (apply And.left; assumption) | apply Ext.drew | apply Ext.alloc))⟩)
end Go.Zz
