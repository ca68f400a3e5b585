/- Direct sums, tilings, the bound of Kneser of the program, energies of the reference. -/
import Derived.Test.YtlegcppncdiijaaC28
import Derived.Test.YtlegcppncdiijaaC44
namespace Go.Zz
open Go.RowKit Go.Proofs
set_option maxHeartbeats 1000000
set_option maxRecDepth 4000

def drF (l : List Int) (a b : Int) : Bool := (isSetB l a && isSetB l b) && decide (cnt (sumF l a.toNat b.toNat) = cnt a.toNat * cnt b.toNat)
theorem drF_no {l : List Int} {a b : Int} (h : (isSetB l a && isSetB l b) = false) : drF l a b = false := by unfold drF; rw [h]; rfl
theorem drF_yes {l : List Int} {a b : Nat} (h : (isSetB l a && isSetB l b) = true) : drF l a b = (((cnt (sumF l a b) : Nat) : Int) == (cnt a : Int) * (cnt b : Int)) := by
  unfold drF; rw [h, Bool.true_and, Bool.eq_iff_iff, decide_eq_true_iff, beq_iff_eq]
  show cnt (sumF l a b) = cnt a * cnt b ↔ _
  constructor
  · intro e; rw [e]; simp
  · intro e; rw [← Int.natCast_mul] at e; exact Int.ofNat_inj.1 e
theorem cnt_mul (a b : Nat) : 0 ≤ (cnt a : Int) * (cnt b : Int) ∧ (cnt a : Int) * (cnt b : Int) ≤ 576 := by
  have h1 := cnt_le a
  have h2 := cnt_le b
  have := Nat.mul_le_mul h1 h2
  rw [← Int.natCast_mul]; omega
def tilF (l : List Int) (a b : Int) : Bool := drF l a b && decide (sumF l a.toNat b.toNat = fullN l)
theorem tilF_no {l : List Int} {a b : Int} (h : drF l a b = false) : tilF l a b = false := by unfold tilF; rw [h]; rfl
theorem tilF_yes {l : List Int} {a b : Nat} (h : drF l a b = true) : tilF l a b = (((sumF l a b : Nat) : Int) == (fullN l : Int)) := by
  unfold tilF; rw [h, Bool.true_and, Bool.eq_iff_iff, decide_eq_true_iff, beq_iff_eq]
  show sumF l a b = fullN l ↔ _
  omega
theorem drF_sets {l : List Int} {a b : Int} (h : drF l a b = true) : (isSetB l a && isSetB l b) = true := by unfold drF at h; rw [Bool.and_eq_true] at h; exact h.1

theorem IsDirect_any (v : Value) (l : List Int) (a b : Int) (w : World) (h : Ints w v l) :
    Calls Try.prog 53 #[.agg #[v], .int .i64 a, .int .i64 b] w fun e w' => e = .returned (.bool (drF l a b)) ∧ Ext w w' := by
  obtain ⟨wb, hwb⟩ : ∃ wb, wb = w.alloc (.cells #[v] 27) := ⟨_, rfl⟩
  have hE0 := (Ext.refl w).alloc (.cells #[v] 27)
  have hb := box_cell w v 27
  rw [← hwb] at hE0 hb
  have hg : ∀ W, Ext wb W → Ints W v l := fun W hW => h.ext (hE0.trans hW)
  have hE := Ext.refl wb
  have Hsz : Hid (w.heap.size + 1 = wb.heap.size) := Lib.hid (by rw [hwb]; simp [go_sem])
  have Hwb := Lib.hid hwb
  clear hwb h
  have hbx := hb wb hE
  have har := areF_two l a b
  cases hs : (isSetB l a && isSetB l b)
  · have Hs := Lib.hid (drF_no hs)
    rw [hs] at har
    clear hs
    go_enter Try.func53, Try.ntmps53
    go_wp2_with fail
    rw [← Hwb.out]; try rw [Hsz.out]
    go_wp2_with (first | (go_at_call 170; refine Calls.mono (areSets_val _ _ _ _ _ (hg _ (by repeat (first | assumption | exact Ext.refl _ | (apply And.left; assumption) | apply Ext.drew | apply Ext.alloc))) (ints_two _ _ _ _) har) ?_; rintro e w' ⟨rfl, hE'⟩; replace hE := hE.trans (Ext.trans (by repeat (first | assumption | exact Ext.refl _ | (apply And.left; assumption) | apply Ext.drew | apply Ext.alloc)) hE'); clear hE'))
    go_ret
    exact ⟨ret_bool Hs.out.symm, hE0.trans hE⟩
  · obtain ⟨h1, h2⟩ := Bool.and_eq_true_iff.1 hs
    obtain ⟨a, rfl, -, ha, hgr⟩ := isSetB_nat h1
    obtain ⟨b, rfl, -, hb', -⟩ := isSetB_nat h2
    have Hs := Lib.hid (drF_yes hs)
    rw [hs] at har
    have Hgr := Lib.hid hgr
    have hsum := sumF_bd hgr a b
    obtain ⟨hm1, hm2⟩ := cnt_mul a b
    have q1 := fun W => bits_any (sumF l a b) hsum W
    have q2 := fun W => bits_any a ha W
    have q3 := fun W => bits_any b hb' W
    clear hs hgr h1 h2
    go_enter Try.func53, Try.ntmps53
    go_wp2_with fail
    rw [← Hwb.out]; try rw [Hsz.out]
    go_wp2_with (first | (go_at_call 170; refine Calls.mono (areSets_val _ _ _ _ _ (hg _ (by repeat (first | assumption | exact Ext.refl _ | (apply And.left; assumption) | apply Ext.drew | apply Ext.alloc))) (ints_two _ _ _ _) har) ?_; rintro e w' ⟨rfl, hE'⟩; replace hE := hE.trans (Ext.trans (by repeat (first | assumption | exact Ext.refl _ | (apply And.left; assumption) | apply Ext.drew | apply Ext.alloc)) hE'); clear hE') | (go_at_call 103; refine (sum_any _ _ _ _ _ (hg _ hE) (Hgr) (ha) (hb')).mono ?_; rintro e w' ⟨rfl, hE'⟩; replace hE := hE.trans hE'; clear hE') | (go_at_call 107; (first | (with_reducible refine Calls.mono (q1 _) ?_) | (with_reducible refine Calls.mono (q2 _) ?_) | (with_reducible refine Calls.mono (q3 _) ?_)); rintro e w' ⟨rfl, rfl⟩))
    go_ret
    exact ⟨ret_bool Hs.out.symm, hE0.trans hE⟩
theorem sIsDirect_any (v : Value) (l : List Int) (a b : Int) (w : World) (h : Ints w v l) :
    Calls Try.prog 99 #[.agg #[v], .int .i64 a, .int .i64 b] w fun e w' => e = .returned (.bool (drF l a b)) ∧ Ext w w' := by
  obtain ⟨wb, hwb⟩ : ∃ wb, wb = w.alloc (.cells #[v] 27) := ⟨_, rfl⟩
  have hE0 := (Ext.refl w).alloc (.cells #[v] 27)
  have hb := box_cell w v 27
  rw [← hwb] at hE0 hb
  have hg : ∀ W, Ext wb W → Ints W v l := fun W hW => h.ext (hE0.trans hW)
  have hE := Ext.refl wb
  have Hsz : Hid (w.heap.size + 1 = wb.heap.size) := Lib.hid (by rw [hwb]; simp [go_sem])
  have Hwb := Lib.hid hwb
  clear hwb h
  have hbx := hb wb hE
  cases h1 : isSetB l a
  · have Hs := Lib.hid (drF_no (l := l) (a := a) (b := b) (by rw [h1]; rfl))
    go_enter Try.func99, Try.ntmps99
    go_wp2_with fail
    rw [← Hwb.out]
    go_wp2_with (first | (go_at_call 161; refine (sIsSet_val _ _ _ _ (hg _ hE) (h1)).mono ?_; rintro e w' ⟨rfl, hE'⟩; replace hE := hE.trans hE'; clear hE'))
    go_ret
    exact ⟨ret_bool Hs.out.symm, hE0.trans hE⟩
  · cases h2 : isSetB l b
    · have Hs := Lib.hid (drF_no (l := l) (a := a) (b := b) (by rw [h1, h2]; rfl))
      have c1 := fun W (hW : Ext wb W) => sIsSet_val v l a W (hg W hW) h1
      have c2 := fun W (hW : Ext wb W) => sIsSet_val v l b W (hg W hW) h2
      go_enter Try.func99, Try.ntmps99
      go_wp2_with fail
      rw [← Hwb.out]
      go_wp2_with (first | (go_at_call 161; (first | (with_reducible refine Calls.mono (c1 _ hE) ?_) | (with_reducible refine Calls.mono (c2 _ hE) ?_)); rintro e w' ⟨rfl, hE'⟩; replace hE := hE.trans hE'; clear hE'))
      go_ret
      exact ⟨ret_bool Hs.out.symm, hE0.trans hE⟩
    · have c1 := fun W (hW : Ext wb W) => sIsSet_val v l a W (hg W hW) h1
      have c2 := fun W (hW : Ext wb W) => sIsSet_val v l b W (hg W hW) h2
      have hs : (isSetB l a && isSetB l b) = true := by rw [h1, h2]; rfl
      obtain ⟨a, rfl, -, ha, hgr⟩ := isSetB_nat h1
      obtain ⟨b, rfl, -, hb', -⟩ := isSetB_nat h2
      have Hs := Lib.hid (drF_yes hs)
      have Hgr := Lib.hid hgr
      have hsum := sumF_bd hgr a b
      obtain ⟨hm1, hm2⟩ := cnt_mul a b
      have q1 := fun W => l3Bits_any (sumF l a b) hsum W
      have q2 := fun W => l3Bits_any a ha W
      have q3 := fun W => l3Bits_any b hb' W
      clear hs hgr h1 h2
      go_enter Try.func99, Try.ntmps99
      go_wp2_with fail
      rw [← Hwb.out]
      go_wp2_with (first | (go_at_call 161; (first | (with_reducible refine Calls.mono (c1 _ hE) ?_) | (with_reducible refine Calls.mono (c2 _ hE) ?_)); rintro e w' ⟨rfl, hE'⟩; replace hE := hE.trans hE'; clear hE') | (go_at_call 93; refine (l4Sum_any _ _ _ _ _ (hg _ hE) (Hgr) (ha) (hb')).mono ?_; rintro e w' ⟨rfl, hE'⟩; replace hE := hE.trans hE'; clear hE') | (go_at_call 96; (first | (with_reducible refine Calls.mono (q1 _) ?_) | (with_reducible refine Calls.mono (q2 _) ?_) | (with_reducible refine Calls.mono (q3 _) ?_)); rintro e w' ⟨rfl, rfl⟩))
      go_ret
      exact ⟨ret_bool Hs.out.symm, hE0.trans hE⟩
theorem IsTiling_any (v : Value) (l : List Int) (a b : Int) (w : World) (h : Ints w v l) :
    Calls Try.prog 112 #[.agg #[v], .int .i64 a, .int .i64 b] w fun e w' => e = .returned (.bool (tilF l a b)) ∧ Ext w w' := by
  obtain ⟨wb, hwb⟩ : ∃ wb, wb = w.alloc (.cells #[v] 27) := ⟨_, rfl⟩
  have hE0 := (Ext.refl w).alloc (.cells #[v] 27)
  have hb := box_cell w v 27
  rw [← hwb] at hE0 hb
  have hg : ∀ W, Ext wb W → Ints W v l := fun W hW => h.ext (hE0.trans hW)
  have hE := Ext.refl wb
  have Hsz : Hid (w.heap.size + 1 = wb.heap.size) := Lib.hid (by rw [hwb]; simp [go_sem])
  have Hwb := Lib.hid hwb
  clear hwb h
  have kb := fun U => hb _ (lat_ext wb U)
  have cD := fun U => IsDirect_any v l a b (Lat wb U) (hg _ (lat_ext wb U))
  cases hd : drF l a b
  · have Hs := Lib.hid (tilF_no hd)
    rw [hd] at cD
    go_enter Try.func112, Try.ntmps112
    go_wp2_with fail
    rw [← Hwb.out]
    (refine wp_region_lat (wb) (by kernel_rfl) (by kernel_rfl) hE ?_); (repeat (go_big_quiet_step (first | (go_at_call 53; exact Calls.lat (cD _))))); (refine wpQuiet_nil ?_); (intro W hE'); (replace hE := lat_of hE'); (clear hE')
    go_wp2_with fail
    go_ret
    exact ⟨ret_bool Hs.out.symm, hE0.trans hE⟩
  · rw [hd] at cD
    obtain ⟨h1, h2⟩ := Bool.and_eq_true_iff.1 (drF_sets hd)
    obtain ⟨a, rfl, -, ha, hgr⟩ := isSetB_nat h1
    obtain ⟨b, rfl, -, hb', -⟩ := isSetB_nat h2
    have Hs := Lib.hid (tilF_yes hd)
    have Hgr := Lib.hid hgr
    clear hgr h1 h2 hd
    go_enter Try.func112, Try.ntmps112
    go_wp2_with fail
    rw [← Hwb.out]
    (refine wp_region_lat (wb) (by kernel_rfl) (by kernel_rfl) hE ?_); (repeat (go_big_quiet_step (first | (go_at_call 53; exact Calls.lat (cD _)) | (go_at_call 103; exact Calls.lat (sum_any _ _ _ _ _ (hg _ (lat_ext wb _)) (Hgr) (ha) (hb'))) | (go_at_call 168; exact Calls.lat (FullSet_grp _ _ _ (hg _ (lat_ext wb _)) (Hgr)))))); (refine wpQuiet_nil ?_); (intro W hE'); (replace hE := lat_of hE'); (clear hE')
    go_wp2_with fail
    go_ret
    exact ⟨ret_bool Hs.out.symm, hE0.trans hE⟩
theorem sIsTiling_any (v : Value) (l : List Int) (a b : Int) (w : World) (h : Ints w v l) :
    Calls Try.prog 100 #[.agg #[v], .int .i64 a, .int .i64 b] w fun e w' => e = .returned (.bool (tilF l a b)) ∧ Ext w w' := by
  obtain ⟨wb, hwb⟩ : ∃ wb, wb = w.alloc (.cells #[v] 27) := ⟨_, rfl⟩
  have hE0 := (Ext.refl w).alloc (.cells #[v] 27)
  have hb := box_cell w v 27
  rw [← hwb] at hE0 hb
  have hg : ∀ W, Ext wb W → Ints W v l := fun W hW => h.ext (hE0.trans hW)
  have hE := Ext.refl wb
  have Hsz : Hid (w.heap.size + 1 = wb.heap.size) := Lib.hid (by rw [hwb]; simp [go_sem])
  have Hwb := Lib.hid hwb
  clear hwb h
  have kb := fun U => hb _ (lat_ext wb U)
  have cD := fun U => sIsDirect_any v l a b (Lat wb U) (hg _ (lat_ext wb U))
  cases hd : drF l a b
  · have Hs := Lib.hid (tilF_no hd)
    rw [hd] at cD
    go_enter Try.func100, Try.ntmps100
    go_wp2_with fail
    rw [← Hwb.out]
    (refine wp_region_lat (wb) (by kernel_rfl) (by kernel_rfl) hE ?_); (repeat (go_big_quiet_step (first | (go_at_call 99; exact Calls.lat (cD _))))); (refine wpQuiet_nil ?_); (intro W hE'); (replace hE := lat_of hE'); (clear hE')
    go_wp2_with fail
    go_ret
    exact ⟨ret_bool Hs.out.symm, hE0.trans hE⟩
  · rw [hd] at cD
    obtain ⟨h1, h2⟩ := Bool.and_eq_true_iff.1 (drF_sets hd)
    obtain ⟨a, rfl, -, ha, hgr⟩ := isSetB_nat h1
    obtain ⟨b, rfl, -, hb', -⟩ := isSetB_nat h2
    have Hs := Lib.hid (tilF_yes hd)
    have Hgr := Lib.hid hgr
    have hob := ord_bd hgr
    have hs1 := ishl_one (n := ord l) (by omega)
    have hpw := pw_le (n := ord l) hob.2
    have hpw1 := pw_pos (ord l)
    have hwr : ((pw (ord l) : Nat) : Int) - 1 = ((fullN l : Nat) : Int) := by unfold fullN; omega
    clear hgr h1 h2 hd
    go_enter Try.func100, Try.ntmps100
    go_wp2_with fail
    rw [← Hwb.out]
    (refine wp_region_lat (wb) (by kernel_rfl) (by kernel_rfl) hE ?_); (repeat (go_big_quiet_step (first | (go_at_call 99; exact Calls.lat (cD _)) | (go_at_call 93; exact Calls.lat (l4Sum_any _ _ _ _ _ (hg _ (lat_ext wb _)) (Hgr) (ha) (hb'))) | (go_at_call 136; exact Calls.lat (l2Order_any _ _ _ (hg _ (lat_ext wb _)) (Hgr)))))); (refine wpQuiet_nil ?_); (intro W hE'); (replace hE := lat_of hE'); (clear hE')
    go_wp2_with fail
    go_ret
    exact ⟨ret_bool Hs.out.symm, hE0.trans hE⟩
def knI (l : List Int) (a b : Int) : Int := if fullB l a b then knF l a.toNat b.toNat else -1
theorem knI_no {l : List Int} {a b : Int} (h : fullB l a b = false) : knI l a b = -1 := by unfold knI; rw [h]; rfl
theorem knI_yes {l : List Int} {a b : Nat} (h : fullB l a b = true) : knI l a b = knF l a b := by unfold knI; rw [h]; rfl
theorem sKneserBound_any (v : Value) (l : List Int) (a b : Int) (w : World) (h : Ints w v l) :
    Calls Try.prog 92 #[.agg #[v], .int .i64 a, .int .i64 b] w fun e w' => e = .returned (.int .i64 (knI l a b)) ∧ Ext w w' := by
  cases hf : fullB l a b
  · rw [knI_no hf]; exact sKneserBound_no v l a b w h hf
  · have hf' := hf
    obtain ⟨m, n, rfl, rfl, -⟩ := fullB_nat hf
    rw [knI_yes hf']; exact sKneserBound_yes v l m n w h hf'
theorem KneserPair_no (v : Value) (l : List Int) (a b : Int) (w : World) (h : Ints w v l) (hf : fullB l a b = false) :
    Calls Try.prog 200 #[.agg #[v], .int .i64 a, .int .i64 b] w fun e w' => e = .returned (.tuple #[.int .i64 0, .int .i64 0, .int .i64 0, .bool false]) ∧ Ext w w' := by
  obtain ⟨wb, hwb⟩ : ∃ wb, wb = w.alloc (.cells #[v] 27) := ⟨_, rfl⟩
  have hE0 := (Ext.refl w).alloc (.cells #[v] 27)
  have hb := box_cell w v 27
  rw [← hwb] at hE0 hb
  have hg : ∀ W, Ext wb W → Ints W v l := fun W hW => h.ext (hE0.trans hW)
  have hE := Ext.refl wb
  have Hsz : Hid (w.heap.size + 1 = wb.heap.size) := Lib.hid (by rw [hwb]; simp [go_sem])
  have Hwb := Lib.hid hwb
  clear hwb h
  go_enter Try.func200, Try.ntmps200
  go_wp2_with fail
  rw [← Hwb.out]
  go_wp2_with (first | (go_at_call 102; refine (areFull_val _ _ _ _ _ (hg _ hE) hf).mono ?_; rintro e w' ⟨rfl, hE'⟩; replace hE := hE.trans hE'; clear hE'))
  exact bodyPost_ret (v := .tuple #[.int .i64 0, .int .i64 0, .int .i64 0, .bool false]) (by simp [results, Try.results200, go_sem]) rfl ⟨rfl, hE0.trans hE⟩
theorem KneserPair_yes (v : Value) (l : List Int) (a b : Nat) (w : World) (h : Ints w v l) (hf : fullB l a b = true) :
    Calls Try.prog 200 #[.agg #[v], .int .i64 a, .int .i64 b] w fun e w' => e = .returned (.tuple #[.int .i64 (kpH l a b : Nat), .int .i64 (sumF l (kpH l a b) a : Nat), .int .i64 (sumF l (kpH l a b) b : Nat), .bool true]) ∧ Ext w w' := by
  obtain ⟨wb, hwb⟩ : ∃ wb, wb = w.alloc (.cells #[v] 27) := ⟨_, rfl⟩
  have hE0 := (Ext.refl w).alloc (.cells #[v] 27)
  have hb := box_cell w v 27
  rw [← hwb] at hE0 hb
  have hg : ∀ W, Ext wb W → Ints W v l := fun W hW => h.ext (hE0.trans hW)
  have hE := Ext.refl wb
  have Hsz : Hid (w.heap.size + 1 = wb.heap.size) := Lib.hid (by rw [hwb]; simp [go_sem])
  have Hwb := Lib.hid hwb
  clear hwb h
  have hbx := fun U => hb _ (lat_ext wb U)
  obtain ⟨m, n, e1, e2, h3, h4, a1, -, ha, hb', hgr, -, -⟩ := fullB_nat hf
  obtain rfl : a = m := by omega
  obtain rfl : b = n := by omega
  have Hgr := Lib.hid hgr
  have hst : kpH l a b < 2 ^ 24 := Nat.lt_of_lt_of_le (stabF_lt l _) (pow_ord hgr)
  have hss : isSetB l ((sumF l a b : Nat) : Int) = true := isSetB_of hgr (sumF_lt (isGrp_ords hgr) a b)
  have hkp : stabF l (sumF l a b) = kpH l a b := rfl
  have Hkp := Lib.hid hkp
  clear hgr e1 e2 hkp h3 h4
  go_enter Try.func200, Try.ntmps200
  go_wp2_with fail
  rw [← Hwb.out]
  go_wp2_with (first | (go_at_call 102; refine (areFull_val _ _ _ _ _ (hg _ hE) hf).mono ?_; rintro e w' ⟨rfl, hE'⟩; replace hE := hE.trans hE'; clear hE'))
  (refine wp_region_lat (wb) (by kernel_rfl) (by kernel_rfl) hE ?_); (repeat (go_big_quiet_step (first | (go_at_call 103; exact Calls.lat (sum_any _ _ _ _ _ (hg _ (lat_ext wb _)) (Hgr) (ha) (hb'))) | (go_at_call 124; exact Calls.lat (StabilizerOf_nat _ _ _ _ (hg _ (lat_ext wb _)) hss))))); (refine wpQuiet_nil ?_); (intro W hE'); (replace hE := lat_of hE'); (clear hE')
  rw [Hkp.out]
  go_wp2_with fail
  (refine wp_region_lat (wb) (by kernel_rfl) (by kernel_rfl) hE ?_); (repeat (go_big_quiet_step (first | (go_at_call 103; exact Calls.lat (sum_any _ _ _ _ _ (hg _ (lat_ext wb _)) (Hgr) (hst) (ha))) | (go_at_call 103; exact Calls.lat (sum_any _ _ _ _ _ (hg _ (lat_ext wb _)) (Hgr) (hst) (hb')))))); (refine wpQuiet_nil ?_); (intro W hE'); (replace hE := lat_of hE'); (clear hE')
  go_wp2_with fail
  exact bodyPost_ret (v := .tuple #[.int .i64 (kpH l a b : Nat), .int .i64 (sumF l (kpH l a b) a : Nat), .int .i64 (sumF l (kpH l a b) b : Nat), .bool true]) (by simp [results, Try.results200, go_sem]) rfl ⟨rfl, hE0.trans hE⟩
theorem KneserBound_any (v : Value) (l : List Int) (a b : Int) (w : World) (h : Ints w v l) :
    Calls Try.prog 108 #[.agg #[v], .int .i64 a, .int .i64 b] w fun e w' => e = .returned (.int .i64 (knI l a b)) ∧ Ext w w' := by
  obtain ⟨wb, hwb⟩ : ∃ wb, wb = w.alloc (.cells #[v] 27) := ⟨_, rfl⟩
  have hE0 := (Ext.refl w).alloc (.cells #[v] 27)
  have hb := box_cell w v 27
  rw [← hwb] at hE0 hb
  have hg : ∀ W, Ext wb W → Ints W v l := fun W hW => h.ext (hE0.trans hW)
  have hE := Ext.refl wb
  have Hsz : Hid (w.heap.size + 1 = wb.heap.size) := Lib.hid (by rw [hwb]; simp [go_sem])
  have Hwb := Lib.hid hwb
  clear hwb h
  cases hf : fullB l a b
  · have Hs := Lib.hid (knI_no hf)
    go_enter Try.func108, Try.ntmps108
    go_wp2_with fail
    rw [← Hwb.out]
    go_wp2_with (first | (go_at_call 200; refine (KneserPair_no _ _ _ _ _ (hg _ hE) hf).mono ?_; rintro e w' ⟨rfl, hE'⟩; replace hE := hE.trans hE'; clear hE'))
    go_ret
    exact ⟨ret_int Hs.out.symm, hE0.trans hE⟩
  · have hf' := hf
    obtain ⟨m, n, rfl, rfl, h3, h4, -, -, ha, hb', hgr, -, -⟩ := fullB_nat hf
    have hst : kpH l m n < 2 ^ 24 := Nat.lt_of_lt_of_le (stabF_lt l _) (pow_ord hgr)
    have hx1 := sumF_bd hgr (kpH l m n) m
    have hx2 := sumF_bd hgr (kpH l m n) n
    have Hs : Hid (knI l m n = (cnt (sumF l (kpH l m n) m) : Int) + cnt (sumF l (kpH l m n) n) - cnt (kpH l m n)) := Lib.hid (by
      rw [knI_yes hf']; unfold knF kpH; rw [sumF_comm l m, sumF_comm l n])
    have q1 := fun W => bits_any (sumF l (kpH l m n) m) hx1 W
    have q2 := fun W => bits_any (sumF l (kpH l m n) n) hx2 W
    have q3 := fun W => bits_any (kpH l m n) hst W
    have r1 := cnt_le (sumF l (kpH l m n) m)
    have r2 := cnt_le (sumF l (kpH l m n) n)
    have r3 := cnt_le (kpH l m n)
    clear hgr hf
    go_enter Try.func108, Try.ntmps108
    go_wp2_with fail
    rw [← Hwb.out]
    go_wp2_with (first | (go_at_call 200; refine (KneserPair_yes _ _ _ _ _ (hg _ hE) hf').mono ?_; rintro e w' ⟨rfl, hE'⟩; replace hE := hE.trans hE'; clear hE') | (go_at_call 107; (first | (with_reducible refine Calls.mono (q1 _) ?_) | (with_reducible refine Calls.mono (q2 _) ?_) | (with_reducible refine Calls.mono (q3 _) ?_)); rintro e w' ⟨rfl, rfl⟩))
    go_ret
    exact ⟨ret_int Hs.out.symm, hE0.trans hE⟩
theorem sEnergyOf_any (v : Value) (l : List Int) (a b : Int) (w : World) (h : Ints w v l) :
    Calls Try.prog 30 #[.agg #[v], .int .i64 a, .int .i64 b] w fun e w' => e = .returned (.int .i64 (enF l a b)) ∧ Ext w w' := by
  obtain ⟨wb, hwb⟩ : ∃ wb, wb = w.alloc (.cells #[v] 27) := ⟨_, rfl⟩
  have hE0 := (Ext.refl w).alloc (.cells #[v] 27)
  have hb := box_cell w v 27
  rw [← hwb] at hE0 hb
  have hg : ∀ W, Ext wb W → Ints W v l := fun W hW => h.ext (hE0.trans hW)
  have hE := Ext.refl wb
  have Hsz : Hid (w.heap.size + 1 = wb.heap.size) := Lib.hid (by rw [hwb]; simp [go_sem])
  have Hwb := Lib.hid hwb
  clear hwb h
  cases hs : (isSetB l a && isSetB l b)
  · have Hs := Lib.hid (enF_no hs)
    have Ht : Hid (tabF l a b = []) := Lib.hid (by unfold tabF; rw [hs]; rfl)
    clear hs
    go_enter Try.func30, Try.ntmps30
    go_wp2_with fail
    rw [← Hwb.out]
    refine (sSumTable_any _ _ _ _ _ (hg _ hE)).mono ?_
    rw [Ht.out]
    rintro e w1 ⟨v1, rfl, hL, hE1⟩
    obtain ⟨ao, c, rfl, -⟩ := hL.shape
    rw [show ([] : List Int).length = 0 from rfl] at hL ⊢
    go_wp2_with fail
    go_ret
    exact ⟨ret_int Hs.out.symm, hE0.trans (hE.trans hE1)⟩
  · obtain ⟨h1, h2⟩ := Bool.and_eq_true_iff.1 hs
    obtain ⟨a, rfl, -, ha, hgr⟩ := isSetB_nat h1
    obtain ⟨b, rfl, -, hb', -⟩ := isSetB_nat h2
    have Hs := Lib.hid (enF_yes hs)
    have Ht := Lib.hid (tabF_N hs)
    have Hgr := Lib.hid hgr
    have hob := ord_bd hgr
    have hne : (((ord l : Nat) : Int) == 0) = false := by rw [beq_eq_false_iff_ne]; omega
    clear hs hgr h1 h2
    go_enter Try.func30, Try.ntmps30
    go_wp2_with fail
    rw [← Hwb.out]
    refine (sSumTable_any _ _ _ _ _ (hg _ hE)).mono ?_
    rw [Ht.out]
    rintro e w1 ⟨v1, rfl, hL, hE1⟩
    have hLs := hL.ints
    obtain ⟨ao, c, adr, rfl, hlen, hadr, hcell⟩ := hLs.op
    have hix := ints_index (c := c) elI szI hadr
    rw [tabN_len] at hcell hlen hix ⊢
    clear hadr hL hLs
    have hEb := hE.trans hE1
    clear hE hE1
    have hE := Ext.refl w1
    go_wp2_with fail
    go_loopw [8, 9] (fun nv i wr => ∃ k : Nat, k ≤ ord l ∧ i = .int .i64 k ∧ nv = .int .i64 (sqTo (tabN l a b) k) ∧ Ext w1 wr) (fun _ i _ => ord l - (intOf i).toNat)
    case atStart => exact ⟨0, by omega, rfl, rfl, hE⟩
    case round =>
      clear hE
      obtain ⟨k, hk, rfl, rfl, hE⟩ := hrel
      by_cases hlt : k < ord l
      · have hck := fun U => hcell k _ hlt (lat_ext w1 U)
        have hsq := Lib.hid (sqTo_succ (tabN l a b) k)
        have hb1 := sqTo_bd Hgr.out a b k
        obtain ⟨hb2, hb3⟩ := tabN_bd Hgr.out a b k
        obtain ⟨hb4, hb5⟩ := sq_bd hb2 hb3
        go_wp2_with fail
        (refine wp_region_lat (w1) (by kernel_rfl) (by kernel_rfl) hE ?_); (repeat (go_big_quiet_step (first | fail))); (refine wpQuiet_nil ?_); (intro W hE'); (replace hE := lat_of hE'); (clear hE')
        go_wp2_with fail
        go_roundw
        case rel => exact ⟨k + 1, by omega, by go_num, by rw [hsq.out], hE⟩
        case measure => (simp [intOf]; omega)
      · have hkl : k = ord l := by omega
        subst hkl
        go_wp2_with fail
        go_ret
        exact ⟨ret_int (by rw [Hs.out]), hE0.trans (hEb.trans hE)⟩
end Go.Zz
