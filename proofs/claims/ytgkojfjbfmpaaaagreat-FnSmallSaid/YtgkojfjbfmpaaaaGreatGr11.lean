/- What a set is: StructureOf. -/
import Derived.Test.YtgkojfjbfmpaaaaGreatGr10
import Derived.Test.YtgkojfjbfmpaaaaGreatGr7
import Derived.Test.YtgkojfjbfmpaaaaGreatGr8
import Derived.Test.YtgkojfjbfmpaaaaGreatGr9
import Derived.Test.YtgkojfjbfmpaaaaGreatGr4
import Derived.Deep.RegionHeld3
import Derived.Laws.EntriesVeiled
import Derived.Laws.OwnMore
namespace Go.Zz
open Go.RowKit Go.Proofs
set_option maxHeartbeats 2000000
set_option linter.unusedSimpArgs false
set_option maxRecDepth 20000

noncomputable def stF (l : List Int) (a : Int) : ByteArray :=
  if isSetB l a then if a = 0 then ⟨#[101, 109, 112, 116, 121]⟩ else if (decide (a.toNat = fullN l)) then ⟨#[119, 104, 111, 108, 101]⟩ else if cstB l a then ⟨#[99, 111, 115, 101, 116]⟩ else if perF l a then ⟨#[112, 101, 114, 105, 111, 100, 105, 99]⟩ else if proB l a then ⟨#[112, 114, 111, 103, 114, 101, 115, 115, 105, 111, 110]⟩ else if boxB l a then ⟨#[98, 111, 120]⟩ else if sidB l a then ⟨#[115, 105, 100, 111, 110]⟩ else ⟨#[111, 116, 104, 101, 114]⟩
  else ⟨#[]⟩
theorem st_no {l : List Int} {a : Int} (h : isSetB l a = false) : stF l a = ⟨#[]⟩ := by unfold stF; rw [h]; rfl
theorem st_zero {l : List Int} (h : isSetB l ((0 : Nat) : Int) = true) : stF l ((0 : Nat) : Int) = ⟨#[101, 109, 112, 116, 121]⟩ := by unfold stF; rw [h]; rfl
theorem st_0 {l : List Int} {n : Nat} (h : isSetB l n = true) (h0' : n ≠ 0)  (h0 : decide (n = fullN l) = true) : stF l n = ⟨#[119, 104, 111, 108, 101]⟩ := by
  unfold stF
  rw [if_pos h, if_neg (by omega)]
  simp only [Int.toNat_natCast, h0, if_true, if_false, Bool.false_eq_true]
theorem st_1 {l : List Int} {n : Nat} (h : isSetB l n = true) (h0' : n ≠ 0) (h0 : decide (n = fullN l) = false) (h1 : cstB l n = true) : stF l n = ⟨#[99, 111, 115, 101, 116]⟩ := by
  unfold stF
  rw [if_pos h, if_neg (by omega)]
  simp only [Int.toNat_natCast, h0, h1, if_true, if_false, Bool.false_eq_true]
theorem st_2 {l : List Int} {n : Nat} (h : isSetB l n = true) (h0' : n ≠ 0) (h0 : decide (n = fullN l) = false) (h1 : cstB l n = false) (h2 : perF l n = true) : stF l n = ⟨#[112, 101, 114, 105, 111, 100, 105, 99]⟩ := by
  unfold stF
  rw [if_pos h, if_neg (by omega)]
  simp only [Int.toNat_natCast, h0, h1, h2, if_true, if_false, Bool.false_eq_true]
theorem st_3 {l : List Int} {n : Nat} (h : isSetB l n = true) (h0' : n ≠ 0) (h0 : decide (n = fullN l) = false) (h1 : cstB l n = false) (h2 : perF l n = false) (h3 : proB l n = true) : stF l n = ⟨#[112, 114, 111, 103, 114, 101, 115, 115, 105, 111, 110]⟩ := by
  unfold stF
  rw [if_pos h, if_neg (by omega)]
  simp only [Int.toNat_natCast, h0, h1, h2, h3, if_true, if_false, Bool.false_eq_true]
theorem st_4 {l : List Int} {n : Nat} (h : isSetB l n = true) (h0' : n ≠ 0) (h0 : decide (n = fullN l) = false) (h1 : cstB l n = false) (h2 : perF l n = false) (h3 : proB l n = false) (h4 : boxB l n = true) : stF l n = ⟨#[98, 111, 120]⟩ := by
  unfold stF
  rw [if_pos h, if_neg (by omega)]
  simp only [Int.toNat_natCast, h0, h1, h2, h3, h4, if_true, if_false, Bool.false_eq_true]
theorem st_5 {l : List Int} {n : Nat} (h : isSetB l n = true) (h0' : n ≠ 0) (h0 : decide (n = fullN l) = false) (h1 : cstB l n = false) (h2 : perF l n = false) (h3 : proB l n = false) (h4 : boxB l n = false) (h5 : sidB l n = true) : stF l n = ⟨#[115, 105, 100, 111, 110]⟩ := by
  unfold stF
  rw [if_pos h, if_neg (by omega)]
  simp only [Int.toNat_natCast, h0, h1, h2, h3, h4, h5, if_true, if_false, Bool.false_eq_true]
theorem st_6 {l : List Int} {n : Nat} (h : isSetB l n = true) (h0' : n ≠ 0) (h0 : decide (n = fullN l) = false) (h1 : cstB l n = false) (h2 : perF l n = false) (h3 : proB l n = false) (h4 : boxB l n = false) (h5 : sidB l n = false) : stF l n = ⟨#[111, 116, 104, 101, 114]⟩ := by
  unfold stF
  rw [if_pos h, if_neg (by omega)]
  simp only [Int.toNat_natCast, h0, h1, h2, h3, h4, h5, if_true, if_false, Bool.false_eq_true]
theorem StructureOf_any (v : Value) (l : List Int) (a : Int) (w : World) (h : Ints w v l) :
    Calls Tryz.prog 14 #[.agg #[v], .int .i64 a] w fun e w' => e = .returned (.string (stF l a)) ∧ Ext w w' := by
  obtain ⟨wb, hwb⟩ : ∃ wb, wb = w.alloc (.cells #[v] 26) := ⟨_, rfl⟩
  have hE0 := (Ext.refl w).alloc (.cells #[v] 26)
  have hb := box_cell w v 26
  rw [← hwb] at hE0 hb
  have hg : ∀ W, Ext wb W → Ints W v l := fun W hW => h.ext (hE0.trans hW)
  have hE := Ext.refl wb
  have Hsz : Hid (w.heap.size + 1 = wb.heap.size) := Lib.hid (by rw [hwb]; simp [go_sem])
  have Hwb := Lib.hid hwb
  clear hwb h
  have hbx := hb wb hE
  cases hs : isSetB l a
  · have Hs := Lib.hid (st_no hs)
    go_enter Tryz.func14, Tryz.ntmps14
    go_wp2_with fail
    rw [← Hwb.out]
    go_wp2_with (first | (go_at_call 32; refine (IsSet_val _ _ _ _ (hg _ hE) (hs)).mono ?_; rintro e w' ⟨rfl, hE'⟩; replace hE := hE.trans hE'; clear hE'))
    go_ret
    exact ⟨ret_str Hs.out.symm, hE0.trans hE⟩
  · obtain ⟨n, rfl, h1, h2, hgr⟩ := isSetB_nat hs
    by_cases h0 : n = 0
    · subst h0
      have Hs := Lib.hid (st_zero hs)
      go_enter Tryz.func14, Tryz.ntmps14
      go_wp2_with fail
      rw [← Hwb.out]
      go_wp2_with (first | (go_at_call 32; refine (IsSet_val _ _ _ _ (hg _ hE) (hs)).mono ?_; rintro e w' ⟨rfl, hE'⟩; replace hE := hE.trans hE'; clear hE'))
      go_ret
      exact ⟨ret_str Hs.out.symm, hE0.trans hE⟩
    · have h0' : ((n : Int) == 0) = false := by simp; omega
      have H0 := Lib.hid h0
      have Hgr := Lib.hid hgr
      have hob := ord_bd hgr
      have hfl := fullN_lt l
      have hfb := Nat.lt_of_lt_of_le hfl (pow_ord hgr)
      have hs1 := ishl_one (n := ord l) (by omega)
      have hpw := pw_le hob.2
      have hpp := pw_pos (ord l)
      have Hfw : Hid (((pw (ord l) : Nat) : Int) - 1 = (fullN l : Int)) := Lib.hid (by unfold fullN; omega)
      clear hgr h0
      cases c0 : decide (n = fullN l)
      rotate_left
      ·
        have Hz := Lib.hid (st_0 hs H0.out c0)
        have hfe : ((n : Int) == (fullN l : Int)) = decide (n = fullN l) := (by rw [Bool.eq_iff_iff]; simp; omega); rw [c0] at hfe
        skip
        go_enter Tryz.func14, Tryz.ntmps14
        go_wp2_with fail
        rw [← Hwb.out]
        go_wp2_with (first | (go_at_call 32; refine (IsSet_val _ _ _ _ (hg _ hE) (hs)).mono ?_; rintro e w' ⟨rfl, hE'⟩; replace hE := hE.trans hE'; clear hE') | (go_at_call 41; refine (FullSet_grp _ _ _ (hg _ hE) (Hgr)).mono ?_; rintro e w' ⟨rfl, hE'⟩; replace hE := hE.trans hE'; clear hE'))
        go_ret
        exact ⟨ret_str Hz.out.symm, hE0.trans hE⟩
      cases c1 : cstB l n
      rotate_left
      ·
        have Hz := Lib.hid (st_1 hs H0.out c0 c1)
        have hfe : ((n : Int) == (fullN l : Int)) = decide (n = fullN l) := (by rw [Bool.eq_iff_iff]; simp; omega); rw [c0] at hfe
        skip
        go_enter Tryz.func14, Tryz.ntmps14
        go_wp2_with fail
        rw [← Hwb.out]
        go_wp2_with (first | (go_at_call 32; refine (IsSet_val _ _ _ _ (hg _ hE) (hs)).mono ?_; rintro e w' ⟨rfl, hE'⟩; replace hE := hE.trans hE'; clear hE') | (go_at_call 41; refine (FullSet_grp _ _ _ (hg _ hE) (Hgr)).mono ?_; rintro e w' ⟨rfl, hE'⟩; replace hE := hE.trans hE'; clear hE') | (go_at_call 10; refine (IsCoset_val _ _ _ _ (hg _ hE) c1).mono ?_; rintro e w' ⟨rfl, hE'⟩; replace hE := hE.trans hE'; clear hE'))
        go_ret
        exact ⟨ret_str Hz.out.symm, hE0.trans hE⟩
      cases c2 : perF l n
      rotate_left
      ·
        have Hz := Lib.hid (st_2 hs H0.out c0 c1 c2)
        have hfe : ((n : Int) == (fullN l : Int)) = decide (n = fullN l) := (by rw [Bool.eq_iff_iff]; simp; omega); rw [c0] at hfe
        skip
        go_enter Tryz.func14, Tryz.ntmps14
        go_wp2_with fail
        rw [← Hwb.out]
        go_wp2_with (first | (go_at_call 32; refine (IsSet_val _ _ _ _ (hg _ hE) (hs)).mono ?_; rintro e w' ⟨rfl, hE'⟩; replace hE := hE.trans hE'; clear hE') | (go_at_call 41; refine (FullSet_grp _ _ _ (hg _ hE) (Hgr)).mono ?_; rintro e w' ⟨rfl, hE'⟩; replace hE := hE.trans hE'; clear hE') | (go_at_call 10; refine (IsCoset_val _ _ _ _ (hg _ hE) c1).mono ?_; rintro e w' ⟨rfl, hE'⟩; replace hE := hE.trans hE'; clear hE') | (go_at_call 42; refine (IsPeriodic_val _ _ _ _ (hg _ hE) c2).mono ?_; rintro e w' ⟨rfl, hE'⟩; replace hE := hE.trans hE'; clear hE'))
        go_ret
        exact ⟨ret_str Hz.out.symm, hE0.trans hE⟩
      cases c3 : proB l n
      rotate_left
      ·
        have Hz := Lib.hid (st_3 hs H0.out c0 c1 c2 c3)
        have hfe : ((n : Int) == (fullN l : Int)) = decide (n = fullN l) := (by rw [Bool.eq_iff_iff]; simp; omega); rw [c0] at hfe
        skip
        go_enter Tryz.func14, Tryz.ntmps14
        go_wp2_with fail
        rw [← Hwb.out]
        go_wp2_with (first | (go_at_call 32; refine (IsSet_val _ _ _ _ (hg _ hE) (hs)).mono ?_; rintro e w' ⟨rfl, hE'⟩; replace hE := hE.trans hE'; clear hE') | (go_at_call 41; refine (FullSet_grp _ _ _ (hg _ hE) (Hgr)).mono ?_; rintro e w' ⟨rfl, hE'⟩; replace hE := hE.trans hE'; clear hE') | (go_at_call 10; refine (IsCoset_val _ _ _ _ (hg _ hE) c1).mono ?_; rintro e w' ⟨rfl, hE'⟩; replace hE := hE.trans hE'; clear hE') | (go_at_call 42; refine (IsPeriodic_val _ _ _ _ (hg _ hE) c2).mono ?_; rintro e w' ⟨rfl, hE'⟩; replace hE := hE.trans hE'; clear hE') | (go_at_call 17; refine (IsProgression_val _ _ _ _ (hg _ hE) c3).mono ?_; rintro e w' ⟨rfl, hE'⟩; replace hE := hE.trans hE'; clear hE'))
        go_ret
        exact ⟨ret_str Hz.out.symm, hE0.trans hE⟩
      cases c4 : boxB l n
      rotate_left
      ·
        have Hz := Lib.hid (st_4 hs H0.out c0 c1 c2 c3 c4)
        have hfe : ((n : Int) == (fullN l : Int)) = decide (n = fullN l) := (by rw [Bool.eq_iff_iff]; simp; omega); rw [c0] at hfe
        skip
        go_enter Tryz.func14, Tryz.ntmps14
        go_wp2_with fail
        rw [← Hwb.out]
        go_wp2_with (first | (go_at_call 32; refine (IsSet_val _ _ _ _ (hg _ hE) (hs)).mono ?_; rintro e w' ⟨rfl, hE'⟩; replace hE := hE.trans hE'; clear hE') | (go_at_call 41; refine (FullSet_grp _ _ _ (hg _ hE) (Hgr)).mono ?_; rintro e w' ⟨rfl, hE'⟩; replace hE := hE.trans hE'; clear hE') | (go_at_call 10; refine (IsCoset_val _ _ _ _ (hg _ hE) c1).mono ?_; rintro e w' ⟨rfl, hE'⟩; replace hE := hE.trans hE'; clear hE') | (go_at_call 42; refine (IsPeriodic_val _ _ _ _ (hg _ hE) c2).mono ?_; rintro e w' ⟨rfl, hE'⟩; replace hE := hE.trans hE'; clear hE') | (go_at_call 17; refine (IsProgression_val _ _ _ _ (hg _ hE) c3).mono ?_; rintro e w' ⟨rfl, hE'⟩; replace hE := hE.trans hE'; clear hE') | (go_at_call 43; refine (IsBox_val _ _ _ _ (hg _ hE) c4).mono ?_; rintro e w' ⟨rfl, hE'⟩; replace hE := hE.trans hE'; clear hE'))
        go_ret
        exact ⟨ret_str Hz.out.symm, hE0.trans hE⟩
      cases c5 : sidB l n
      rotate_left
      ·
        have Hz := Lib.hid (st_5 hs H0.out c0 c1 c2 c3 c4 c5)
        have hfe : ((n : Int) == (fullN l : Int)) = decide (n = fullN l) := (by rw [Bool.eq_iff_iff]; simp; omega); rw [c0] at hfe
        skip
        go_enter Tryz.func14, Tryz.ntmps14
        go_wp2_with fail
        rw [← Hwb.out]
        go_wp2_with (first | (go_at_call 32; refine (IsSet_val _ _ _ _ (hg _ hE) (hs)).mono ?_; rintro e w' ⟨rfl, hE'⟩; replace hE := hE.trans hE'; clear hE') | (go_at_call 41; refine (FullSet_grp _ _ _ (hg _ hE) (Hgr)).mono ?_; rintro e w' ⟨rfl, hE'⟩; replace hE := hE.trans hE'; clear hE') | (go_at_call 10; refine (IsCoset_val _ _ _ _ (hg _ hE) c1).mono ?_; rintro e w' ⟨rfl, hE'⟩; replace hE := hE.trans hE'; clear hE') | (go_at_call 42; refine (IsPeriodic_val _ _ _ _ (hg _ hE) c2).mono ?_; rintro e w' ⟨rfl, hE'⟩; replace hE := hE.trans hE'; clear hE') | (go_at_call 17; refine (IsProgression_val _ _ _ _ (hg _ hE) c3).mono ?_; rintro e w' ⟨rfl, hE'⟩; replace hE := hE.trans hE'; clear hE') | (go_at_call 43; refine (IsBox_val _ _ _ _ (hg _ hE) c4).mono ?_; rintro e w' ⟨rfl, hE'⟩; replace hE := hE.trans hE'; clear hE') | (go_at_call 44; refine (IsSidon_val _ _ _ _ (hg _ hE) c5).mono ?_; rintro e w' ⟨rfl, hE'⟩; replace hE := hE.trans hE'; clear hE'))
        go_ret
        exact ⟨ret_str Hz.out.symm, hE0.trans hE⟩
      have Hz := Lib.hid (st_6 hs H0.out c0 c1 c2 c3 c4 c5)
      have hfe : ((n : Int) == (fullN l : Int)) = decide (n = fullN l) := (by rw [Bool.eq_iff_iff]; simp; omega); rw [c0] at hfe
      skip
      go_enter Tryz.func14, Tryz.ntmps14
      go_wp2_with fail
      rw [← Hwb.out]
      go_wp2_with (first | (go_at_call 32; refine (IsSet_val _ _ _ _ (hg _ hE) (hs)).mono ?_; rintro e w' ⟨rfl, hE'⟩; replace hE := hE.trans hE'; clear hE') | (go_at_call 41; refine (FullSet_grp _ _ _ (hg _ hE) (Hgr)).mono ?_; rintro e w' ⟨rfl, hE'⟩; replace hE := hE.trans hE'; clear hE') | (go_at_call 10; refine (IsCoset_val _ _ _ _ (hg _ hE) c1).mono ?_; rintro e w' ⟨rfl, hE'⟩; replace hE := hE.trans hE'; clear hE') | (go_at_call 42; refine (IsPeriodic_val _ _ _ _ (hg _ hE) c2).mono ?_; rintro e w' ⟨rfl, hE'⟩; replace hE := hE.trans hE'; clear hE') | (go_at_call 17; refine (IsProgression_val _ _ _ _ (hg _ hE) c3).mono ?_; rintro e w' ⟨rfl, hE'⟩; replace hE := hE.trans hE'; clear hE') | (go_at_call 43; refine (IsBox_val _ _ _ _ (hg _ hE) c4).mono ?_; rintro e w' ⟨rfl, hE'⟩; replace hE := hE.trans hE'; clear hE') | (go_at_call 44; refine (IsSidon_val _ _ _ _ (hg _ hE) c5).mono ?_; rintro e w' ⟨rfl, hE'⟩; replace hE := hE.trans hE'; clear hE'))
      go_ret
      exact ⟨ret_str Hz.out.symm, hE0.trans hE⟩
theorem sStructureOf_any (v : Value) (l : List Int) (a : Int) (w : World) (h : Ints w v l) :
    Calls Tryz.prog 15 #[.agg #[v], .int .i64 a] w fun e w' => e = .returned (.string (stF l a)) ∧ Ext w w' := by
  obtain ⟨wb, hwb⟩ : ∃ wb, wb = w.alloc (.cells #[v] 26) := ⟨_, rfl⟩
  have hE0 := (Ext.refl w).alloc (.cells #[v] 26)
  have hb := box_cell w v 26
  rw [← hwb] at hE0 hb
  have hg : ∀ W, Ext wb W → Ints W v l := fun W hW => h.ext (hE0.trans hW)
  have hE := Ext.refl wb
  have Hsz : Hid (w.heap.size + 1 = wb.heap.size) := Lib.hid (by rw [hwb]; simp [go_sem])
  have Hwb := Lib.hid hwb
  clear hwb h
  have hbx := hb wb hE
  cases hs : isSetB l a
  · have Hs := Lib.hid (st_no hs)
    go_enter Tryz.func15, Tryz.ntmps15
    go_wp2_with fail
    rw [← Hwb.out]
    go_wp2_with (first | (go_at_call 16; refine (sIsSet_val _ _ _ _ (hg _ hE) (hs)).mono ?_; rintro e w' ⟨rfl, hE'⟩; replace hE := hE.trans hE'; clear hE'))
    go_ret
    exact ⟨ret_str Hs.out.symm, hE0.trans hE⟩
  · obtain ⟨n, rfl, h1, h2, hgr⟩ := isSetB_nat hs
    by_cases h0 : n = 0
    · subst h0
      have Hs := Lib.hid (st_zero hs)
      go_enter Tryz.func15, Tryz.ntmps15
      go_wp2_with fail
      rw [← Hwb.out]
      go_wp2_with (first | (go_at_call 16; refine (sIsSet_val _ _ _ _ (hg _ hE) (hs)).mono ?_; rintro e w' ⟨rfl, hE'⟩; replace hE := hE.trans hE'; clear hE'))
      go_ret
      exact ⟨ret_str Hs.out.symm, hE0.trans hE⟩
    · have h0' : ((n : Int) == 0) = false := by simp; omega
      have H0 := Lib.hid h0
      have Hgr := Lib.hid hgr
      have hob := ord_bd hgr
      have hfl := fullN_lt l
      have hfb := Nat.lt_of_lt_of_le hfl (pow_ord hgr)
      have hs1 := ishl_one (n := ord l) (by omega)
      have hpw := pw_le hob.2
      have hpp := pw_pos (ord l)
      have Hfw : Hid (((pw (ord l) : Nat) : Int) - 1 = (fullN l : Int)) := Lib.hid (by unfold fullN; omega)
      clear hgr h0
      cases c0 : decide (n = fullN l)
      rotate_left
      ·
        have Hz := Lib.hid (st_0 hs H0.out c0)
        have hfe : ((n : Int) == ((pw (ord l) : Nat) : Int) - 1) = decide (n = fullN l) := (by rw [Hfw.out, Bool.eq_iff_iff]; simp; omega); rw [c0] at hfe
        skip
        go_enter Tryz.func15, Tryz.ntmps15
        go_wp2_with fail
        rw [← Hwb.out]
        go_wp2_with (first | (go_at_call 16; refine (sIsSet_val _ _ _ _ (hg _ hE) (hs)).mono ?_; rintro e w' ⟨rfl, hE'⟩; replace hE := hE.trans hE'; clear hE') | (go_at_call 45; refine (l2Order_any _ _ _ (hg _ hE) (Hgr)).mono ?_; rintro e w' ⟨rfl, hE'⟩; replace hE := hE.trans hE'; clear hE'))
        go_ret
        exact ⟨ret_str Hz.out.symm, hE0.trans hE⟩
      cases c1 : cstB l n
      rotate_left
      ·
        have Hz := Lib.hid (st_1 hs H0.out c0 c1)
        have hfe : ((n : Int) == ((pw (ord l) : Nat) : Int) - 1) = decide (n = fullN l) := (by rw [Hfw.out, Bool.eq_iff_iff]; simp; omega); rw [c0] at hfe
        skip
        go_enter Tryz.func15, Tryz.ntmps15
        go_wp2_with fail
        rw [← Hwb.out]
        go_wp2_with (first | (go_at_call 16; refine (sIsSet_val _ _ _ _ (hg _ hE) (hs)).mono ?_; rintro e w' ⟨rfl, hE'⟩; replace hE := hE.trans hE'; clear hE') | (go_at_call 45; refine (l2Order_any _ _ _ (hg _ hE) (Hgr)).mono ?_; rintro e w' ⟨rfl, hE'⟩; replace hE := hE.trans hE'; clear hE') | (go_at_call 46; refine (sIsCoset_val _ _ _ _ (hg _ hE) c1).mono ?_; rintro e w' ⟨rfl, hE'⟩; replace hE := hE.trans hE'; clear hE'))
        go_ret
        exact ⟨ret_str Hz.out.symm, hE0.trans hE⟩
      cases c2 : perF l n
      rotate_left
      ·
        have Hz := Lib.hid (st_2 hs H0.out c0 c1 c2)
        have hfe : ((n : Int) == ((pw (ord l) : Nat) : Int) - 1) = decide (n = fullN l) := (by rw [Hfw.out, Bool.eq_iff_iff]; simp; omega); rw [c0] at hfe
        skip
        go_enter Tryz.func15, Tryz.ntmps15
        go_wp2_with fail
        rw [← Hwb.out]
        go_wp2_with (first | (go_at_call 16; refine (sIsSet_val _ _ _ _ (hg _ hE) (hs)).mono ?_; rintro e w' ⟨rfl, hE'⟩; replace hE := hE.trans hE'; clear hE') | (go_at_call 45; refine (l2Order_any _ _ _ (hg _ hE) (Hgr)).mono ?_; rintro e w' ⟨rfl, hE'⟩; replace hE := hE.trans hE'; clear hE') | (go_at_call 46; refine (sIsCoset_val _ _ _ _ (hg _ hE) c1).mono ?_; rintro e w' ⟨rfl, hE'⟩; replace hE := hE.trans hE'; clear hE') | (go_at_call 47; refine (sIsPeriodic_val _ _ _ _ (hg _ hE) c2).mono ?_; rintro e w' ⟨rfl, hE'⟩; replace hE := hE.trans hE'; clear hE'))
        go_ret
        exact ⟨ret_str Hz.out.symm, hE0.trans hE⟩
      cases c3 : proB l n
      rotate_left
      ·
        have Hz := Lib.hid (st_3 hs H0.out c0 c1 c2 c3)
        have hfe : ((n : Int) == ((pw (ord l) : Nat) : Int) - 1) = decide (n = fullN l) := (by rw [Hfw.out, Bool.eq_iff_iff]; simp; omega); rw [c0] at hfe
        skip
        go_enter Tryz.func15, Tryz.ntmps15
        go_wp2_with fail
        rw [← Hwb.out]
        go_wp2_with (first | (go_at_call 16; refine (sIsSet_val _ _ _ _ (hg _ hE) (hs)).mono ?_; rintro e w' ⟨rfl, hE'⟩; replace hE := hE.trans hE'; clear hE') | (go_at_call 45; refine (l2Order_any _ _ _ (hg _ hE) (Hgr)).mono ?_; rintro e w' ⟨rfl, hE'⟩; replace hE := hE.trans hE'; clear hE') | (go_at_call 46; refine (sIsCoset_val _ _ _ _ (hg _ hE) c1).mono ?_; rintro e w' ⟨rfl, hE'⟩; replace hE := hE.trans hE'; clear hE') | (go_at_call 47; refine (sIsPeriodic_val _ _ _ _ (hg _ hE) c2).mono ?_; rintro e w' ⟨rfl, hE'⟩; replace hE := hE.trans hE'; clear hE') | (go_at_call 48; refine (sIsProgression_val _ _ _ _ (hg _ hE) c3).mono ?_; rintro e w' ⟨rfl, hE'⟩; replace hE := hE.trans hE'; clear hE'))
        go_ret
        exact ⟨ret_str Hz.out.symm, hE0.trans hE⟩
      cases c4 : boxB l n
      rotate_left
      ·
        have Hz := Lib.hid (st_4 hs H0.out c0 c1 c2 c3 c4)
        have hfe : ((n : Int) == ((pw (ord l) : Nat) : Int) - 1) = decide (n = fullN l) := (by rw [Hfw.out, Bool.eq_iff_iff]; simp; omega); rw [c0] at hfe
        skip
        go_enter Tryz.func15, Tryz.ntmps15
        go_wp2_with fail
        rw [← Hwb.out]
        go_wp2_with (first | (go_at_call 16; refine (sIsSet_val _ _ _ _ (hg _ hE) (hs)).mono ?_; rintro e w' ⟨rfl, hE'⟩; replace hE := hE.trans hE'; clear hE') | (go_at_call 45; refine (l2Order_any _ _ _ (hg _ hE) (Hgr)).mono ?_; rintro e w' ⟨rfl, hE'⟩; replace hE := hE.trans hE'; clear hE') | (go_at_call 46; refine (sIsCoset_val _ _ _ _ (hg _ hE) c1).mono ?_; rintro e w' ⟨rfl, hE'⟩; replace hE := hE.trans hE'; clear hE') | (go_at_call 47; refine (sIsPeriodic_val _ _ _ _ (hg _ hE) c2).mono ?_; rintro e w' ⟨rfl, hE'⟩; replace hE := hE.trans hE'; clear hE') | (go_at_call 48; refine (sIsProgression_val _ _ _ _ (hg _ hE) c3).mono ?_; rintro e w' ⟨rfl, hE'⟩; replace hE := hE.trans hE'; clear hE') | (go_at_call 49; refine (sIsBox_val _ _ _ _ (hg _ hE) c4).mono ?_; rintro e w' ⟨rfl, hE'⟩; replace hE := hE.trans hE'; clear hE'))
        go_ret
        exact ⟨ret_str Hz.out.symm, hE0.trans hE⟩
      cases c5 : sidB l n
      rotate_left
      ·
        have Hz := Lib.hid (st_5 hs H0.out c0 c1 c2 c3 c4 c5)
        have hfe : ((n : Int) == ((pw (ord l) : Nat) : Int) - 1) = decide (n = fullN l) := (by rw [Hfw.out, Bool.eq_iff_iff]; simp; omega); rw [c0] at hfe
        skip
        go_enter Tryz.func15, Tryz.ntmps15
        go_wp2_with fail
        rw [← Hwb.out]
        go_wp2_with (first | (go_at_call 16; refine (sIsSet_val _ _ _ _ (hg _ hE) (hs)).mono ?_; rintro e w' ⟨rfl, hE'⟩; replace hE := hE.trans hE'; clear hE') | (go_at_call 45; refine (l2Order_any _ _ _ (hg _ hE) (Hgr)).mono ?_; rintro e w' ⟨rfl, hE'⟩; replace hE := hE.trans hE'; clear hE') | (go_at_call 46; refine (sIsCoset_val _ _ _ _ (hg _ hE) c1).mono ?_; rintro e w' ⟨rfl, hE'⟩; replace hE := hE.trans hE'; clear hE') | (go_at_call 47; refine (sIsPeriodic_val _ _ _ _ (hg _ hE) c2).mono ?_; rintro e w' ⟨rfl, hE'⟩; replace hE := hE.trans hE'; clear hE') | (go_at_call 48; refine (sIsProgression_val _ _ _ _ (hg _ hE) c3).mono ?_; rintro e w' ⟨rfl, hE'⟩; replace hE := hE.trans hE'; clear hE') | (go_at_call 49; refine (sIsBox_val _ _ _ _ (hg _ hE) c4).mono ?_; rintro e w' ⟨rfl, hE'⟩; replace hE := hE.trans hE'; clear hE') | (go_at_call 50; refine (sIsSidon_val _ _ _ _ (hg _ hE) c5).mono ?_; rintro e w' ⟨rfl, hE'⟩; replace hE := hE.trans hE'; clear hE'))
        go_ret
        exact ⟨ret_str Hz.out.symm, hE0.trans hE⟩
      have Hz := Lib.hid (st_6 hs H0.out c0 c1 c2 c3 c4 c5)
      have hfe : ((n : Int) == ((pw (ord l) : Nat) : Int) - 1) = decide (n = fullN l) := (by rw [Hfw.out, Bool.eq_iff_iff]; simp; omega); rw [c0] at hfe
      skip
      go_enter Tryz.func15, Tryz.ntmps15
      go_wp2_with fail
      rw [← Hwb.out]
      go_wp2_with (first | (go_at_call 16; refine (sIsSet_val _ _ _ _ (hg _ hE) (hs)).mono ?_; rintro e w' ⟨rfl, hE'⟩; replace hE := hE.trans hE'; clear hE') | (go_at_call 45; refine (l2Order_any _ _ _ (hg _ hE) (Hgr)).mono ?_; rintro e w' ⟨rfl, hE'⟩; replace hE := hE.trans hE'; clear hE') | (go_at_call 46; refine (sIsCoset_val _ _ _ _ (hg _ hE) c1).mono ?_; rintro e w' ⟨rfl, hE'⟩; replace hE := hE.trans hE'; clear hE') | (go_at_call 47; refine (sIsPeriodic_val _ _ _ _ (hg _ hE) c2).mono ?_; rintro e w' ⟨rfl, hE'⟩; replace hE := hE.trans hE'; clear hE') | (go_at_call 48; refine (sIsProgression_val _ _ _ _ (hg _ hE) c3).mono ?_; rintro e w' ⟨rfl, hE'⟩; replace hE := hE.trans hE'; clear hE') | (go_at_call 49; refine (sIsBox_val _ _ _ _ (hg _ hE) c4).mono ?_; rintro e w' ⟨rfl, hE'⟩; replace hE := hE.trans hE'; clear hE') | (go_at_call 50; refine (sIsSidon_val _ _ _ _ (hg _ hE) c5).mono ?_; rintro e w' ⟨rfl, hE'⟩; replace hE := hE.trans hE'; clear hE'))
      go_ret
      exact ⟨ret_str Hz.out.symm, hE0.trans hE⟩
end Go.Zz

/- Facts of the law on sets of small doubling. -/
namespace Go.Zz
open Go.RowKit Go.Proofs
set_option maxHeartbeats 2000000
set_option maxRecDepth 8000

theorem small_all {l : List Int} {a : Int} (h : smallF l a = true) :
    subB l (scD l a) = true ∧ cstB l (scS l a) = true ∧ iand (scS l a) a = a ∧ csF l (scS l a) = csF l (scD l a) ∧ ¬ (3 * csF l a ≤ 2 * csF l (scD l a)) ∧ csF l (ssF l a a) = csF l (scD l a) ∧ (0 ≤ csF l a ∧ csF l a ≤ 24) ∧ (0 ≤ csF l (scD l a) ∧ csF l (scD l a) ≤ 24) := by
  obtain ⟨n, rfl, hn, hn24, hg, hs⟩ := smallF_nat h
  have h0 : n ≠ 0 := fun e => by subst e; have q := smallF_zero l; rw [show ((0 : Nat) : Int) = 0 from rfl, q] at h; cases h
  rw [smallF_yes hs (Nat.pos_of_ne_zero h0), decide_eq_true_iff] at h
  obtain ⟨e1, e2⟩ := sc_yes (show smallF l n = true by rw [smallF_yes hs (Nat.pos_of_ne_zero h0), decide_eq_true_iff]; exact h)
  obtain ⟨f1, f2, f3, f4, f5, f6⟩ := small_fact hg hn h0 (by omega)
  have hO := isGrp_ords hg
  have s1 : isSetB l (sumF l n (oppF l n) : Nat) = true := isSetB_of hg (sumF_lt hO _ _)
  have s2 : isSetB l (sumF l n (sumF l n (oppF l n)) : Nat) = true := isSetB_of hg (sumF_lt hO _ _)
  have s3 : isSetB l (sumF l n n : Nat) = true := isSetB_of hg (sumF_lt hO _ _)
  have c1 := cnt_le n
  have c2 := cnt_le (sumF l n (oppF l n))
  unfold dS at f1 f2 f3 f4 f5 f6
  rw [e1, e2, ssF_yes (by rw [hs]; rfl), csF_yes hs, csF_yes s1, csF_yes s2, csF_yes s3]
  refine ⟨f1, f2, ?_, by rw [f4], by omega, by rw [f6], by omega, by omega⟩
  rw [iand_nat (by have := sumF_bd hg n (sumF l n (oppF l n)); omega) (by omega), f3]
theorem st_all (l : List Int) (a : Int) : (isSetB l a = false ∧ stF l a = ⟨#[]⟩) ∨ (isSetB l a = true ∧ (
    stF l a = ⟨#[101, 109, 112, 116, 121]⟩ ∨ stF l a = ⟨#[119, 104, 111, 108, 101]⟩ ∨ (stF l a = ⟨#[99, 111, 115, 101, 116]⟩ ∧ cstB l a = true) ∨ stF l a = ⟨#[112, 101, 114, 105, 111, 100, 105, 99]⟩ ∨
    (stF l a = ⟨#[112, 114, 111, 103, 114, 101, 115, 115, 105, 111, 110]⟩ ∧ proB l a = true) ∨ stF l a = ⟨#[98, 111, 120]⟩ ∨ stF l a = ⟨#[115, 105, 100, 111, 110]⟩ ∨ stF l a = ⟨#[111, 116, 104, 101, 114]⟩)) := by
  cases h : isSetB l a
  · exact Or.inl ⟨rfl, st_no h⟩
  · refine Or.inr ⟨rfl, ?_⟩
    obtain ⟨n, rfl, -, -, -⟩ := isSetB_nat h
    by_cases h0 : n = 0
    · subst h0; exact Or.inl (st_zero h)
    · cases h1 : decide (n = fullN l)
      · cases h2 : cstB l n
        · cases h3 : perF l n
          · cases h4 : proB l n
            · cases h5 : boxB l n
              · cases h6 : sidB l n
                · exact Or.inr (Or.inr (Or.inr (Or.inr (Or.inr (Or.inr (Or.inr (st_6 h h0 h1 h2 h3 h4 h5 h6)))))))
                · exact Or.inr (Or.inr (Or.inr (Or.inr (Or.inr (Or.inr (Or.inl (st_5 h h0 h1 h2 h3 h4 h5 h6)))))))
              · exact Or.inr (Or.inr (Or.inr (Or.inr (Or.inr (Or.inl (st_4 h h0 h1 h2 h3 h4 h5))))))
            · exact Or.inr (Or.inr (Or.inr (Or.inr (Or.inl ⟨st_3 h h0 h1 h2 h3 h4, rfl⟩))))
          · exact Or.inr (Or.inr (Or.inr (Or.inl (st_2 h h0 h1 h2 h3))))
        · exact Or.inr (Or.inr (Or.inl ⟨st_1 h h0 h1 h2, rfl⟩))
      · exact Or.inr (Or.inl (st_0 h h0 h1))
theorem kc_all (l : List Int) (a b : Int) : (kcF l a b = ⟨#[108, 97, 114, 103, 101]⟩ ∧ 0 < sdF l a b) ∨ kcF l a b = ⟨#[]⟩ ∨ kcF l a b = ⟨#[112, 101, 114, 105, 111, 100, 105, 99]⟩ ∨ kcF l a b = ⟨#[111, 110, 101]⟩ ∨ kcF l a b = ⟨#[115, 116, 101, 112, 115]⟩ ∨ kcF l a b = ⟨#[111, 116, 104, 101, 114]⟩ := by
  cases h : fullB l a b
  · exact Or.inr (Or.inl (kc_no h))
  · obtain ⟨m, n, rfl, rfl, -⟩ := fullB_nat h
    by_cases h1 : 0 < sdF l m n
    · exact Or.inl ⟨kc_1 h h1, h1⟩
    · cases h2 : perF l (sumF l m n : Nat)
      · by_cases h3 : cnt m = 1 ∨ cnt n = 1
        · exact Or.inr (Or.inr (Or.inr (Or.inl (kc_3 h h1 h2 h3))))
        · cases h4 : comB (difF l m) (difF l n)
          · exact Or.inr (Or.inr (Or.inr (Or.inr (Or.inr (kc_5 h h1 h2 h3 h4)))))
          · exact Or.inr (Or.inr (Or.inr (Or.inr (Or.inl (kc_4 h h1 h2 h3 h4)))))
      · exact Or.inr (Or.inr (Or.inl (kc_2 h h1 h2)))
theorem dc_all {l : List Int} {a : Int} (h : isOneB l a = true) : subB l (dcF l a) = true ∧ csF l (dcF l a) = csF l (hullF l a) := by
  obtain ⟨n, rfl, h0, hn, hn24, hg⟩ := isOneB_nat h
  have s1 : isSetB l (baseF l n : Nat) = true := isSetB_of hg (genF_lt hg _)
  have s2 : isSetB l (shiftF l (baseF l n) (lowN n) : Nat) = true := isSetB_of hg (shiftF_lt (isGrp_ords hg) _ _)
  rw [dcF_yes h, hullF_yes h]
  exact ⟨subB_gen hg _, by rw [csF_yes s1, csF_yes s2, cnt_shift hg (show baseF l n < 2 ^ ord l from genF_lt hg _)]⟩
theorem sAffineHull_any (v : Value) (l : List Int) (a : Int) (w : World) (h : Ints w v l) :
    Calls Tryz.prog 25 #[.agg #[v], .int .i64 a] w fun e w' => e = .returned (.int .i64 (hullF l a)) ∧ Ext w w' := by
  obtain ⟨wb, hwb⟩ : ∃ wb, wb = w.alloc (.cells #[v] 26) := ⟨_, rfl⟩
  have hE0 := (Ext.refl w).alloc (.cells #[v] 26)
  have hb := box_cell w v 26
  rw [← hwb] at hE0 hb
  have hg : ∀ W, Ext wb W → Ints W v l := fun W hW => h.ext (hE0.trans hW)
  have hE := Ext.refl wb
  have Hsz : Hid (w.heap.size + 1 = wb.heap.size) := Lib.hid (by rw [hwb]; simp [go_sem])
  have Hwb := Lib.hid hwb
  clear hwb h
  have hbx := hb wb hE
  cases hs : isSetB l a
  · have Hs := Lib.hid (hullF_no (isOneB_no hs))
    go_enter Tryz.func25, Tryz.ntmps25
    go_wp2_with fail
    rw [← Hwb.out]
    go_wp2_with (first | (go_at_call 16; refine (sIsSet_any _ _ _ _ (hg _ hE)).mono ?_; rintro e w' ⟨rfl, hE'⟩; replace hE := hE.trans hE'; clear hE'))
    go_ret
    exact ⟨ret_int Hs.out.symm, hE0.trans hE⟩
  · obtain ⟨n, rfl, h1, h2, hgr⟩ := isSetB_nat hs
    by_cases h0 : n = 0
    · subst h0
      have Hs := Lib.hid (hullF_no (isOneB_zero l))
      go_enter Tryz.func25, Tryz.ntmps25
      go_wp2_with fail
      rw [← Hwb.out]
      go_wp2_with (first | (go_at_call 16; refine (sIsSet_any _ _ _ _ (hg _ hE)).mono ?_; rintro e w' ⟨rfl, hE'⟩; replace hE := hE.trans hE'; clear hE'))
      go_ret
      exact ⟨ret_int Hs.out.symm, hE0.trans hE⟩
    · have Ht := Lib.hid (isOneB_yes hs (by omega))
      have Hs := Lib.hid (hullF_yes Ht.out)
      obtain ⟨-, -, l3, l4⟩ := lowN_first h0 h2
      have h0' : ((n : Int) == 0) = false := by simp; omega
      have Hgr := Lib.hid hgr
      have hn := negF_bd hgr (lowN n)
      have hs1 := shiftF_bd hgr n (negF l (lowN n))
      have hb1 : baseF l n < 2 ^ 24 := Nat.lt_of_lt_of_le (show baseF l n < 2 ^ ord l from genF_lt hgr _) (pow_ord hgr)
      clear hgr
      go_enter Tryz.func25, Tryz.ntmps25
      go_wp2_with fail
      rw [← Hwb.out]
      go_wp2_with (first | (go_at_call 16; refine (sIsSet_any _ _ _ _ (hg _ hE)).mono ?_; rintro e w' ⟨rfl, hE'⟩; replace hE := hE.trans hE'; clear hE') | (go_at_call 63; refine (l5Low_any n h0 h2 _).mono ?_; rintro e w' ⟨rfl, rfl⟩))
      rename World => wq
      have hgU := fun U => hg _ (hE.trans (lat_ext wq U))
      replace hbx := fun U => hb _ (hE.trans (lat_ext wq U))
      have hEq := hE
      replace hE := Ext.refl wq
      have c1 := fun U => l2Negate_any v l (lowN n) (Lat wq U) (hgU U) Hgr (by omega)
      have c2 := fun U => l3Shift_any v l n (negF l (lowN n)) (Lat wq U) (hgU U) Hgr h2 hn
      have c3 := fun U => l5Closure_any v l (shiftF l n (negF l (lowN n))) (Lat wq U) (hgU U) Hgr hs1
      have c4 := fun U => l3Shift_any v l (baseF l n) (lowN n) (Lat wq U) (hgU U) Hgr hb1 l4
      change (∀ U, Calls _ _ _ _ (fun e w' => e = .returned (.int .i64 ((baseF l n : Nat) : Int)) ∧ Ext (Lat wq U) w')) at c3
      (refine wp_region_lat (wq) (by kernel_rfl) (by kernel_rfl) hE ?_); (repeat (go_big_quiet_step (first | (go_at_call 62; with_reducible exact Calls.lat (c1 _)) | (go_at_call 61; first | with_reducible exact Calls.lat (c2 _) | with_reducible exact Calls.lat (c4 _)) | (go_at_call 60; with_reducible exact Calls.lat (c3 _))))); (refine wpQuiet_nil ?_); (intro W hE'); (replace hE := lat_of hE'); (clear hE')
      go_wp2_with fail
      go_ret
      exact ⟨ret_int Hs.out.symm, hE0.trans (hEq.trans hE)⟩
end Go.Zz

/- The search for a first largest set: the program's closures. -/
namespace Go.Zz
open Go.RowKit Go.Proofs
set_option maxHeartbeats 2000000
set_option maxRecDepth 4000

/-- w' is w with new blocks, and writes to the blocks of S alone -/
structure Fw (S : Nat → Prop) (w w' : World) : Prop where
  os : w'.os = w.os
  tape : w'.tape = w.tape
  output : w'.output = w.output
  size : w.heap.size ≤ w'.heap.size
  block : ∀ k, k < w.heap.size → ¬ S k → w'.heap[k]? = w.heap[k]?
theorem Fw.refl (S : Nat → Prop) (w : World) : Fw S w w := ⟨rfl, rfl, rfl, Nat.le_refl _, fun _ _ _ => rfl⟩
theorem Fw.trans {S : Nat → Prop} {w w1 w2 : World} (h : Fw S w w1) (k : Fw S w1 w2) : Fw S w w2 :=
  ⟨k.os.trans h.os, k.tape.trans h.tape, k.output.trans h.output, Nat.le_trans h.size k.size, fun i hi hs => (k.block i (Nat.lt_of_lt_of_le hi h.size) hs).trans (h.block i hi hs)⟩
theorem Ext.fw {w w' : World} (h : Ext w w') (S : Nat → Prop) : Fw S w w' := ⟨h.os, h.tape, h.output, h.size, fun k hk _ => h.block k hk⟩
theorem fw_set {S : Nat → Prop} {b : Nat} (h : S b) (w : World) (i : Nat) (v : Value) : Fw S w (w.setCell ⟨b, i, none⟩ v) :=
  ⟨rfl, rfl, rfl, by simp, fun k _ hk => Below.heap_setCell _ _ _ _ (fun e => hk (by rw [e]; exact h))⟩
theorem Fw.ext {S : Nat → Prop} {w0 w w' : World} (h : Fw S w w') (hE : Ext w0 w) (hS : ∀ k, S k → w0.heap.size ≤ k) : Ext w0 w' := by
  have hs := hE.size
  refine ⟨h.os.trans hE.os, h.tape.trans hE.tape, h.output.trans hE.output, Nat.le_trans hs h.size, fun k hk => ?_⟩
  rw [h.block k (Nat.lt_of_lt_of_le hk hs) fun e => by have := hS k e; omega]
  exact hE.block k hk
theorem Fw.blk {S : Nat → Prop} {w w' : World} (h : Fw S w w') {c : Nat} {T : TypeId} {cs : Array Value} (hB : Blk w c T cs) (hc : ¬ S c) : Blk w' c T cs := by
  unfold Blk; rw [h.block c hB.lt hc]; exact hB
/-- three boxes of ints -/
def S3 (a b c : Nat) (k : Nat) : Prop := k = a ∨ k = b ∨ k = c

end Go.Zz

/- Slices of slices that a call makes: their length alone is told. -/
namespace Go.Zz
open Go.RowKit Go.Proofs
set_option maxHeartbeats 1000000

theorem infoV : (Tryz.prog.info? 24).map (fun i => (i.zero, i.size, i.bytes)) = some (some (.slice none 0 0), 1, 24) := by kernel_rfl
theorem undV : Tryz.prog.underlying 79 = some (.slice 24) := by kernel_rfl
theorem elV : Tryz.prog.underlying 79 = some (.slice (Tryz.prog.elem 79)) := by kernel_rfl
theorem szV : ∀ w, (Go.sizeOf (Tryz.prog.elem 79)).run Tryz.prog w = .ok 1 w := fun w => by kernel_rfl
/-- v is a slice of n slices of the call's own -/
def OwnV (w0 w : World) (v : Value) (n : Nat) : Prop :=
  ∃ L : List Value, L.length = n ∧ (∀ u ∈ L, u.oneCell' = true) ∧ w.ownsRow w0.heap.size 24 1 v n L ∧ n ≤ 1000000
theorem OwnV.blk {w0 w : World} {v : Value} {n : Nat} (h : OwnV w0 w v n) : ∀ k, v.ownBlock = some k → w0.heap.size ≤ k ∧ k < w.heap.size := by
  obtain ⟨L, -, -, h, -⟩ := h; exact h.lt
theorem OwnV.ext {w0 w w' : World} {v : Value} {n : Nat} (h : OwnV w0 w v n) (hE : Ext w w') : OwnV w0 w' v n := by
  obtain ⟨L, h1, h2, h3, h4⟩ := h
  refine ⟨L, h1, h2, h3.kept (row := none) ⟨hE.os, hE.tape, hE.output, hE.size, fun k hk _ => hE.block k hk⟩ ?_, h4⟩
  cases hv : v.ownBlock <;> simp
theorem OwnV.mono {w0 w1 w : World} {v : Value} {n : Nat} (h : OwnV w1 w v n) (hE : Ext w0 w1) : OwnV w0 w v n := by
  obtain ⟨L, h1, h2, h3, h4⟩ := h
  exact ⟨L, h1, h2, ownsRow_mono h3 hE.size, h4⟩
theorem OwnV.le {w0 w : World} {v : Value} {n : Nat} (h : OwnV w0 w v n) : n ≤ 1000000 := by obtain ⟨_, _, _, _, h⟩ := h; exact h
theorem ownV_made {w0 w : World} (hE : Ext w0 w) : OwnV w0 (w.alloc (.cells #[] 24)) (.slice (some ⟨w.heap.size, 0, none⟩) 0 0) 0 := by
  have := World.ownsRow_lit (base := w0.heap.size) (e := 24) (size := 1) w #[] 0 hE.size (by unfold maxLen; omega) (by simp)
  exact ⟨[], rfl, by simp, by simpa using this, by omega⟩
theorem ownV_one {w0 w : World} (hE : Ext w0 w) (ao : Option Addr) (n c : Nat) : OwnV w0 (w.alloc (.cells #[.slice ao n c] 24)) (.slice (some ⟨w.heap.size, 0, none⟩) 1 1) 1 := by
  have := World.ownsRow_lit (base := w0.heap.size) (e := 24) (size := 1) w #[.slice ao n c] 1 hE.size (by unfold maxLen; omega) (by simp)
  exact ⟨[.slice ao n c], rfl, by simp [Value.oneCell'], by simpa using this, by omega⟩
theorem OwnV.shape {w0 w : World} {v : Value} {n : Nat} (h : OwnV w0 w v n) :
    ∃ (ao : Option Addr) (c : Nat), v = .slice ao n c ∧ n ≤ c ∧ (∀ i, i < n → ∃ g u, ao = some ⟨g, 0, none⟩ ∧ w.cell? ⟨g, i, none⟩ = some u) := by
  obtain ⟨L, hL, -, h1, -⟩ := h
  have h2 := h1.2
  rcases h2 with ⟨rfl, hl⟩ | ⟨g, cap, cur, rfl, hg, hh, hc, r⟩
  · exact ⟨none, 0, by rw [hl], by omega, by omega⟩
  · refine ⟨some ⟨g, 0, none⟩, cap, rfl, hc, fun i hi => ⟨g, L[i]'(by omega), rfl, ?_⟩⟩
    rw [World.ownsRow.cellAt h1 i (by omega)]
    simp [show i < L.length by omega]
/-- append of m cells that are there -/
theorem run_appendA (ty : TypeId) (w0 w : World) (v : Value) (n m c : Nat) (ad : Addr) (M : List Value) (hO : OwnV w0 w v n) (hM : M.length = m) (hM1 : ∀ u ∈ M, u.oneCell' = true) (hnews : ∀ j x, M[j]? = some x → w.cell? (ad.add j) = some x) (hE : Ext w0 w) (hn : n + m ≤ 1000000) :
    ∃ v' w', (Builtin.append_ #[79, 79] ty #[v, .slice (some ad) m c]).run Tryz.prog w = .ok v' w' ∧ OwnV w0 w' v' (n + m) ∧ w.grownBy w' v.ownBlock ∧ Nw v.ownBlock w v'.ownBlock ∧ Ext w0 w' := by
  obtain ⟨i, hi, hz, hs1, hby⟩ := info_parts infoV
  obtain ⟨L, hL, hL1, hL2, -⟩ := hO
  have hblk := hL2.lt
  have hLM : ∀ u ∈ L ++ M, u.oneCell' = true := fun u hu => by
    rw [List.mem_append] at hu
    rcases hu with hu | hu
    · exact hL1 u hu
    · exact hM1 u hu
  have h2 := hL2.2
  rcases h2 with ⟨rfl, hl⟩ | ⟨g, cap, cur, rfl, hg, hh, hnc, hcm, hcs, htk⟩
  · subst hl
    have hL' : L = [] := List.eq_nil_of_length_eq_zero hL
    subst hL'
    obtain ⟨v', w', hrun, r1, r2, -⟩ := run_append_own (P := Tryz.prog) w w.heap.size 79 ty 24 i (.slice none 0 0) 1 24 undV hi hz hs1 hby rfl (by omega) (.slice none 0 0) 0 [] (World.ownsRow_nil _ _ _ _) ad m c M (by omega) hnews hM1 (by unfold maxLen; omega) (by omega) (Nat.le_refl _)
    have r1' := r1.lt
    exact ⟨v', w', hrun, ⟨M, by omega, hM1, ownsRow_mono (by simpa using r1) hE.size, by omega⟩, r2, Or.inr fun k hk => (r1' k hk).1, hE.grown r2 fun k hk => by simp [Value.ownBlock] at hk⟩
  · by_cases hroom : n + m ≤ cap
    · obtain ⟨w', hrun, r1, r2⟩ := run_append_fits (P := Tryz.prog) w w0.heap.size 79 ty 24 i 1 undV hi hs1 g n cap _ hL2 ad m c M (by omega) hnews hM1 hroom
      exact ⟨_, w', hrun, ⟨L ++ M, by rw [List.length_append]; omega, hLM, r1, by omega⟩, r2, Or.inl rfl, hE.grown r2 fun k hk => by cases hk; exact hg⟩
    · obtain ⟨v', w', hrun, r1, r2⟩ := run_append_arg_grows (P := Tryz.prog) (w := w) 79 ty 24 i (.slice none 0 0) 1 24 undV hi hz hs1 hby rfl (by omega) ⟨g, 0, none⟩ n cap L (by omega) (by
        intro j u hu
        have hj : j < L.length := (List.getElem?_eq_some_iff.1 hu).1
        rw [Addr.add_lit, Nat.zero_add, World.ownsRow.cellAt hL2 j (by omega)]
        exact hu) ad m c M (by omega) hnews (by omega) (by unfold maxLen; omega) (by omega)
      have r1' := r1.lt
      exact ⟨v', w', hrun, ⟨L ++ M, by rw [List.length_append]; omega, hLM, ownsRow_mono r1 hE.size, by omega⟩, ⟨r2.os, r2.tape, r2.output, r2.size, fun k hk _ => r2.block k hk (by simp)⟩, Or.inr fun k hk => (r1' k hk).1, hE.grown r2 (by simp)⟩
/-- append(s, t...) -/
theorem run_appendsV (ty : TypeId) (w0 w1 w : World) (v u : Value) (n m : Nat) (hO : OwnV w0 w v n) (hI : OwnV w1 w u m) (hE : Ext w0 w) (hn : n + m ≤ 1000000) :
    ∃ v' w', (Builtin.append_ #[79, 79] ty #[v, u]).run Tryz.prog w = .ok v' w' ∧ OwnV w0 w' v' (n + m) ∧ w.grownBy w' v.ownBlock ∧ Nw v.ownBlock w v'.ownBlock ∧ Ext w0 w' := by
  have hO' := hO
  obtain ⟨i, hi, hz, hs1, hby⟩ := info_parts infoV
  obtain ⟨L, hL, -, hL2, -⟩ := hO
  obtain ⟨M, hM, hM1, hM2, -⟩ := hI
  have hM3 := hM2.2
  rcases hM3 with ⟨rfl, hl⟩ | ⟨g, cap, cur, rfl, hg, hh, hc, r⟩
  · subst hl
    have hrun := run_append_owned_none (P := Tryz.prog) w w0.heap.size 79 ty 24 i 1 undV hi v n L hL2
    exact ⟨v, w, hrun, hO', ⟨rfl, rfl, rfl, Nat.le_refl _, fun _ _ _ => rfl⟩, Or.inl rfl, hE⟩
  · exact run_appendA ty w0 w v n m cap ⟨g, 0, none⟩ M hO' hM hM1 (fun j x hx => by
      have hj : j < M.length := (List.getElem?_eq_some_iff.1 hx).1
      rw [Addr.add_lit, Nat.zero_add, World.ownsRow.cellAt hM2 j (by omega)]; exact hx) hE hn
section
variable {ops : Array Oper} {rest : List Oper} {o : Oper} {a : Act} {Q : Exit → Act → World → Prop}
theorem step_appendsV {K : Act → World → Prop} {E : Prop} {w : World} (hg : o.guard = none) (s x : Operand) (hop : o.op = Op.call { callee := Callee.builtin Builtin.append, args := #[s, x], argTypes := #[79, 79] })
    (w0 w1 : World) (v u : Value) (n m : Nat) (hO : OwnV w0 w v n) (hI : OwnV w1 w u m) (hE : Ext w0 w) (hn : n + m ≤ 1000000) (hs : a.eval s = v) (hx : a.eval x = u)
    (hK : ∀ v' w', OwnV w0 w' v' (n + m) → Ext w0 w' → K (a.put o.dst v') w') :
    if Region.wanted o (yielded ops a.tmps) = true then Oper.wp Tryz.prog o a w K Q else E := by
  have hw : Region.wanted o (yielded ops a.tmps) = true := by simp [Region.wanted, hg]
  rw [if_pos hw]
  obtain ⟨v', w', hrun, h1, -, -, h2⟩ := run_appendsV o.type w0 w1 w v u n m hO hI hE hn
  unfold Oper.wp
  simp [execOp, hop, resolve, invoke, builtin, hs, hx, hrun, Result.andThen]
  exact hK v' w' h1 h2
theorem wp_appendsV (hg : o.guard = none) (s x : Operand) (hop : o.op = Op.call { callee := Callee.builtin Builtin.append, args := #[s, x], argTypes := #[79, 79] })
    (w0 w1 w : World) (v u : Value) (n m : Nat) (hO : OwnV w0 w v n) (hI : OwnV w1 w u m) (hE : Ext w0 w) (hn : n + m ≤ 1000000) (hs : a.eval s = v) (hx : a.eval x = u)
    (hK : ∀ v' w', OwnV w0 w' v' (n + m) → Ext w0 w' → wpList Tryz.prog ops Q rest (a.put o.dst v') w') :
    wpList Tryz.prog ops Q (o :: rest) a w := by
  obtain ⟨v', w', hrun, h1, -, -, h2⟩ := run_appendsV o.type w0 w1 w v u n m hO hI hE hn
  refine wpList_plain hg fun K hK' => ?_
  unfold Oper.wp
  simp [execOp, hop, resolve, invoke, builtin, hs, hx, hrun, Result.andThen]
  exact hK' _ _ (hK v' w' h1 h2)
/-- append(s, y) -/
theorem wp_append1V (hg : o.guard = none) (s x : Operand) (hop : o.op = Op.call { callee := Callee.builtin Builtin.append, args := #[s, x], argTypes := #[79, 79] })
    (w0 W : World) (v : Value) (n : Nat) (ao : Option Addr) (k c : Nat) (hO : OwnV w0 W v n) (hE : Ext w0 W) (hn : n < 1000000) (hs : a.eval s = v) (hx : a.eval x = .slice (some ⟨W.heap.size, 0, none⟩) 1 1)
    (hK : ∀ v' w', OwnV w0 w' v' (n + 1) → W.grownBy w' v.ownBlock → Nw v.ownBlock W v'.ownBlock → wpList Tryz.prog ops Q rest (a.put o.dst v') w') :
    wpList Tryz.prog ops Q (o :: rest) a (W.alloc (.cells #[.slice ao k c] 24)) := by
  have e : Ext W (W.alloc (.cells #[.slice ao k c] 24)) := (Ext.refl W).alloc _
  obtain ⟨v', w', hrun, h1, h2, h3, -⟩ := run_appendA o.type w0 (W.alloc (.cells #[.slice ao k c] 24)) v n 1 1 ⟨W.heap.size, 0, none⟩ [.slice ao k c] (hO.ext e) rfl (by simp [Value.oneCell']) (cell_one_new _ _ _) (hE.alloc _) (by omega)
  refine wpList_plain hg fun K hK' => ?_
  unfold Oper.wp
  simp [execOp, hop, resolve, invoke, builtin, hs, hx, hrun, Result.andThen]
  refine hK' _ _ (hK v' w' h1 ⟨h2.os.trans e.os, h2.tape.trans e.tape, h2.output.trans e.output, Nat.le_trans e.size h2.size, fun k hk hne => ?_⟩ ?_)
  · rw [h2.block k (Nat.lt_of_lt_of_le hk e.size) hne]; exact e.block k hk
  · rcases h3 with h3 | h3
    · exact Or.inl h3
    · exact Or.inr fun k hk => Nat.le_trans e.size (h3 k hk)
/-- append(s, y), as a step of a region that draws -/
theorem step_append1V {K : Act → World → Prop} {E : Prop} {w : World} (hg : o.guard = none) (s x : Operand) (hop : o.op = Op.call { callee := Callee.builtin Builtin.append, args := #[s, x], argTypes := #[79, 79] })
    (w0 : World) (v : Value) (n g : Nat) (ao : Option Addr) (k c : Nat) (hs : a.eval s = v) (hx : a.eval x = .slice (some ⟨g, 0, none⟩) 1 1) (hB : Blk w g 24 #[.slice ao k c]) (hO : OwnV w0 w v n) (hE : Ext w0 w) (hn : n < 1000000)
    (hK : ∀ v' w', OwnV w0 w' v' (n + 1) → w.grownBy w' v.ownBlock → Nw v.ownBlock w v'.ownBlock → K (a.put o.dst v') w') :
    if Region.wanted o (yielded ops a.tmps) = true then Oper.wp Tryz.prog o a w K Q else E := by
  have hw : Region.wanted o (yielded ops a.tmps) = true := by simp [Region.wanted, hg]
  rw [if_pos hw]
  obtain ⟨v', w', hrun, h1, h2, h3, -⟩ := run_appendA o.type w0 w v n 1 1 ⟨g, 0, none⟩ [.slice ao k c] hO rfl (by simp [Value.oneCell']) (fun j u hu => by
    have hj : j < 1 := by have := (List.getElem?_eq_some_iff.1 hu).1; simpa using this
    have e0 : j = 0 := by omega
    subst e0
    rw [Addr.add_lit, Nat.zero_add]
    exact hB.cell (i := 0) (by simpa using hu)) hE (by omega)
  unfold Oper.wp
  simp [execOp, hop, resolve, invoke, builtin, hs, hx, hrun, Result.andThen]
  exact hK v' w' h1 h2 h3
end
end Go.Zz

/- The drawing of arguments: numbers below a bound, one of a list. -/
namespace Go.Zz
open Go.RowKit Go.Proofs
set_option maxHeartbeats 2000000
set_option maxRecDepth 8000

/-- a number that a draw may give where it is asked for one below n -/
def Bel (n x : Int) : Prop := (n ≤ 0 → x = 0) ∧ (0 < n → 0 ≤ x ∧ x < n)
theorem l1Below_any (w0 w : World) (p : Nat) (n : Int) (hn : n ≤ 256) (h : Cur w0 w p) :
    Calls Tryz.prog 72 #[.pointer (some ⟨p, 0, none⟩), .int .i64 n] w fun e w' => ∃ x, e = .returned (.int .i64 x) ∧ Bel n x ∧ Cur w0 w' p ∧ Drw p w w' := by
  by_cases h0 : n ≤ 0
  · have Hb : Hid (Bel n 0) := Lib.hid ⟨fun _ => rfl, fun e => by omega⟩
    go_enter Tryz.func72, Tryz.ntmps72
    go_wp2_with fail
    go_ret
    exact ⟨0, rfl, Hb.out, h, Drw.refl p w⟩
  · have hp : 0 < n := by omega
    go_enter Tryz.func72, Tryz.ntmps72
    go_wp2_with fail
    refine (l1Byte_any w0 w p h).mono ?_
    rintro e w1 ⟨x, rfl, hx0, hx1, hC, hF⟩
    have hm1 : 0 ≤ x % n := Int.emod_nonneg _ (by omega)
    have hm2 : x % n < n := Int.emod_lt_of_pos _ hp
    have Hb : Hid (Bel n (x % n)) := Lib.hid ⟨fun e => by omega, fun _ => ⟨hm1, hm2⟩⟩
    have hn0 : ¬ n = 0 := by omega
    have htm : x.tmod n = x % n := Int.tmod_eq_emod_of_nonneg hx0
    go_wp2_with fail
    go_ret
    exact ⟨_, rfl, Hb.out, hC, hF⟩
theorem l1Once_any (w0 w : World) (p : Nat) (n : Int) (hn : n ≤ 256) (h : Cur w0 w p) :
    Calls Tryz.prog 38 #[.pointer (some ⟨p, 0, none⟩), .int .i64 n] w fun e w' => ∃ b, e = .returned (.bool b) ∧ Cur w0 w' p ∧ Drw p w w' := by
  go_enter Tryz.func38, Tryz.ntmps38
  go_wp2_with fail
  refine (l1Below_any w0 w p n hn h).mono ?_
  rintro e w1 ⟨x, rfl, -, hC, hF⟩
  go_wp2_with fail
  go_ret
  exact ⟨_, rfl, hC, hF⟩
theorem l1PickInt_any (w0 w wA : World) (p : Nat) (u : Value) (L : List Int) (h : Cur w0 w p) (hO : Own 3 wA w u L) (hp : p < wA.heap.size) (h1 : 1 ≤ L.length) (h2 : L.length ≤ 256) :
    Calls Tryz.prog 98 #[.pointer (some ⟨p, 0, none⟩), u] w fun e w' => ∃ k, k < L.length ∧ e = .returned (.int .i64 (nth L k)) ∧ Cur w0 w' p ∧ Drw p w w' := by
  obtain ⟨ao, c, rfl, -⟩ := hO.shape
  go_enter Tryz.func98, Tryz.ntmps98
  go_wp2_with fail
  refine (l1Below_any w0 w p L.length (by omega) h).mono ?_
  rintro e w1 ⟨x, rfl, hb, hC, hF⟩
  obtain ⟨hx0, hx1⟩ := hb.2 (by omega)
  obtain ⟨k, rfl⟩ := Int.eq_ofNat_of_zero_le hx0
  have hk : k < L.length := by omega
  obtain ⟨ao', c', adr, hv, -, hadr, hcell⟩ := (hF.own hO hp).ints.op
  simp only [Value.slice.injEq] at hv
  obtain ⟨rfl, -, rfl⟩ := hv
  have hix := ints_index (c := c) elI szI hadr k
  have hck := hcell k w1 hk (Ext.refl _)
  clear hadr hcell
  go_wp2_with fail
  go_ret
  exact ⟨k, hk, rfl, hC, hF⟩
/-- rows of a list of lists, allocated one behind the other -/
def litW (T : TypeId) (w : World) (Ls : List (List Int)) : World := Ls.foldl (fun w L => w.alloc (.cells (L.map (Value.int .i64)).toArray T)) w
theorem litW_cons (T : TypeId) (w : World) (L : List Int) (Ls : List (List Int)) : litW T w (L :: Ls) = litW T (w.alloc (.cells (L.map (Value.int .i64)).toArray T)) Ls := rfl
theorem litW_ext (T : TypeId) : ∀ (Ls : List (List Int)) (w : World), Ext w (litW T w Ls)
  | [], w => Ext.refl w
  | L :: Ls, w => Ext.trans ((Ext.refl w).alloc _) (litW_ext T Ls _)
theorem litW_size (T : TypeId) : ∀ (Ls : List (List Int)) (w : World), (litW T w Ls).heap.size = w.heap.size + Ls.length
  | [], w => rfl
  | L :: Ls, w => by rw [litW_cons, litW_size T Ls]; simp; omega
theorem litW_own (T : TypeId) : ∀ (Ls : List (List Int)) (w : World), (∀ L ∈ Ls, L.length ≤ 1000) → ∀ k L, Ls[k]? = some L → Own T w (litW T w Ls) (.slice (some ⟨w.heap.size + k, 0, none⟩) L.length L.length) L
  | [], _, _, k, L, h => by simp at h
  | M :: Ls, w, hb, k, L, h => by
    rw [litW_cons]
    cases k with
    | zero =>
      simp at h
      subst h
      exact (own_made (TI := T) (by have := hb M (by simp); omega) (Ext.refl w) M rfl).ext (litW_ext T Ls _)
    | succ k =>
      have := litW_own T Ls (w.alloc (.cells (M.map (Value.int .i64)).toArray T)) (fun N hN => hb N (by simp [hN])) k L (by simpa using h)
      have e : (w.alloc (.cells (M.map (Value.int .i64)).toArray T)).heap.size + k = w.heap.size + (k + 1) := by simp; omega
      rw [e] at this
      exact this.mono ((Ext.refl w).alloc _)
def gLits : List (List Int) := [[], [2], [3], [4], [5], [6], [7], [8], [9], [10], [11], [12], [2, 2], [2, 4], [3, 3], [2, 6], [2, 2, 2], [13], [16], [4, 4], [2, 2, 3], [2, 3], [24]]
def litV (n : Nat) : List (List Int) → List Value
  | [] => []
  | L :: Ls => .slice (some ⟨n, 0, none⟩) L.length L.length :: litV (n + 1) Ls
theorem litV_get : ∀ (Ls : List (List Int)) (n k : Nat) (L : List Int), Ls[k]? = some L → (litV n Ls)[k]? = some (.slice (some ⟨n + k, 0, none⟩) L.length L.length)
  | [], _, k, L, h => by simp at h
  | M :: Ls, n, k, L, h => by
    cases k with
    | zero => simp at h; subst h; rfl
    | succ k =>
      have := litV_get Ls (n + 1) k L (by simpa using h)
      rw [show n + 1 + k = n + (k + 1) by omega] at this
      simpa [litV] using this
theorem l2Draw_any (w0 w : World) (p : Nat) (m : Int) (h : Cur w0 w p) :
    Calls Tryz.prog 105 #[.pointer (some ⟨p, 0, none⟩), .int .i64 m] w fun e w' => ∃ ao L c, e = .returned (.agg #[.slice ao (List.length L) c]) ∧ Own 3 w w' (.slice ao (List.length L) c) L ∧ Cur w0 w' p ∧ Drw p w w' := by
  go_enter Tryz.func105, Tryz.ntmps105
  go_wp2_with fail
  change Calls _ _ _ ((litW 3 (w.alloc (.cells #[.slice none 0 0] 26)) gLits).alloc (.cells (litV (w.heap.size + 1) gLits).toArray 24)) _
  have hB0 : Blk (w.alloc (.cells #[.slice none 0 0] 26)) w.heap.size 26 #[.slice none 0 0] := Blk.new _ _ _
  have hE0 : Ext w (w.alloc (.cells #[.slice none 0 0] 26)) := (Ext.refl w).alloc _
  have hs0 : (w.alloc (.cells #[.slice none 0 0] 26)).heap.size = w.heap.size + 1 := by simp
  have hOl := fun k L (hk : gLits[k]? = some L) => litW_own 3 gLits (w.alloc (.cells #[.slice none 0 0] 26)) (by decide) k L hk
  have hE1 := litW_ext 3 gLits (w.alloc (.cells #[.slice none 0 0] 26))
  have hs1 := litW_size 3 gLits (w.alloc (.cells #[.slice none 0 0] 26))
  generalize litW 3 (w.alloc (.cells #[.slice none 0 0] 26)) gLits = w1 at hOl hE1 hs1 ⊢
  generalize w.alloc (.cells #[.slice none 0 0] 26) = wA at hB0 hE0 hs0 hOl hE1 hs1
  have hlen : gLits.length = 23 := rfl
  rw [hs0, hlen] at hs1
  have hBg : Blk (w1.alloc (.cells (litV (w.heap.size + 1) gLits).toArray 24)) (w.heap.size + 1 + 1 + 1 + 1 + 1 + 1 + 1 + 1 + 1 + 1 + 1 + 1 + 1 + 1 + 1 + 1 + 1 + 1 + 1 + 1 + 1 + 1 + 1 + 1) 24 (litV (w.heap.size + 1) gLits).toArray := Blk.new' (by omega)
  have hE2 : Ext w1 (w1.alloc (.cells (litV (w.heap.size + 1) gLits).toArray 24)) := (Ext.refl w1).alloc _
  generalize w1.alloc (.cells (litV (w.heap.size + 1) gLits).toArray 24) = w2 at hBg hE2 ⊢
  have hp := h.lt
  have hC2 := h.ext (hE0.trans (hE1.trans hE2))
  refine (l1Below_any w0 w2 p 23 (by omega) hC2).mono ?_
  rintro e w3 ⟨x, rfl, hb, hC, hF⟩
  obtain ⟨hx0, hx1⟩ := hb.2 (by omega)
  obtain ⟨k, rfl⟩ := Int.eq_ofNat_of_zero_le hx0
  have hk : k < 23 := by omega
  obtain ⟨L, hL⟩ : ∃ L, gLits[k]? = some L := ⟨_, List.getElem?_eq_getElem (by rw [hlen]; exact hk)⟩
  have hO3 := hF.own ((hOl k L hL).ext hE2) (by omega)
  have hBg3 := hF.blk hBg (by omega)
  have hcg := hBg3.cell (i := k) (v := .slice (some ⟨w.heap.size + 1 + k, 0, none⟩) L.length L.length) (by simpa using litV_get gLits (w.heap.size + 1) k L hL)
  have hB3 := hF.blk (hB0.ext (hE1.trans hE2)) (by omega)
  have hl3 : L.length ≤ 3 := by
    have : ∀ L ∈ gLits, L.length ≤ 3 := by decide
    exact this L (List.mem_of_getElem? hL)
  rw [hs0] at hO3
  obtain ⟨g, hg⟩ : ∃ g, g = w.heap.size + 1 + 1 + 1 + 1 + 1 + 1 + 1 + 1 + 1 + 1 + 1 + 1 + 1 + 1 + 1 + 1 + 1 + 1 + 1 + 1 + 1 + 1 + 1 + 1 := ⟨_, rfl⟩
  rw [← hg] at hcg ⊢
  have hixV : ∀ W, (Instr.indexAt 79 (.slice (some ⟨g, 0, none⟩) 23 23) (.int .i64 (k : Int))).run Tryz.prog W = .ok (.pointer (some ⟨g, k, none⟩)) W := fun W => by
    rw [run_indexAt_slice (h := elV), if_pos (by omega), szV]
    simp [Result.andThen, Addr.add_lit]
  obtain ⟨b, hbd⟩ : ∃ b, b = w.heap.size + 1 + k := ⟨_, rfl⟩
  rw [← hbd] at hcg hO3
  obtain ⟨ao', c', adr, hv, -, hadr, hcell⟩ := hO3.ints.op
  simp only [Value.slice.injEq] at hv
  obtain ⟨rfl, -, rfl⟩ := hv
  have hixo := ints_index (c := L.length) elI szI hadr
  have Hcell := Lib.hid hcell
  have hkb := hB3.cell (i := 0) (v := .slice none 0 0) rfl
  have hfb := hB3.free 0
  have hF3 := Lib.hid (((hE0.trans (hE1.trans hE2)).drw p).trans hF)
  have hsz := hF.size
  have HE0 := Lib.hid hE0
  clear hadr hcell hB0 hE0 hs0 hOl hE1 hs1 hBg hE2 hC2 hF hb hL hBg3 hg hbd
  go_wp2_with fail
  go_loopw [7, 8] (fun sn si wr => ∃ (q : Nat) (n : Int), q ≤ L.length ∧ si = .int .i64 q ∧ sn = .int .i64 n ∧ wr = w3) (fun _ si _ => L.length - (intOf si).toNat)
  case atStart => exact ⟨0, _, by omega, rfl, rfl, rfl⟩
  case round =>
    obtain ⟨q, n, hq, rfl, rfl, rfl⟩ := hrel
    by_cases hlt : q < L.length
    · have hltI : (q : Int) < (L.length : Int) := by omega
      have hck := Hcell.out q wr hlt (Ext.refl _)
      go_wp2_with fail
      go_roundw
      case rel => exact ⟨q + 1, _, by omega, by go_num, rfl, by trivial⟩
      case measure => (simp [intOf]; omega)
    · have hltI : ¬ (q : Int) < (L.length : Int) := by omega
      have hsw : w.heap.size < wr.heap.size := hB3.lt
      by_cases hgt : m < n
      · have hO := (own_made (TI := 3) (n := 1) (by omega) (Ext.refl wr) [5] rfl)
        have hBn := hB3.alloc (.cells #[.int .i64 5] 3)
        have kbn := hBn.cell (i := 0) (v := .slice none 0 0) rfl
        have fbn := hBn.free 0
        have kres := (hBn.set 0 (.slice (some ⟨wr.heap.size, 0, none⟩) 1 1)).cell (i := 0) (v := .slice (some ⟨wr.heap.size, 0, none⟩) 1 1) rfl
        go_wp2_with fail
        clear kbn fbn hBn hO kres
        have hs5 : (wr.setCell ⟨w.heap.size, 0, none⟩ (.slice (some ⟨wr.heap.size, 0, none⟩) 1 1)).heap.size = wr.heap.size := by simp
        have hO5 := (own_made (TI := 3) (n := 1) (by omega) (Ext.refl (wr.setCell ⟨w.heap.size, 0, none⟩ (.slice (some ⟨wr.heap.size, 0, none⟩) 1 1))) [5] rfl).low (w0 := w) (by omega)
        rw [hs5] at hO5
        have hC5 := (hC.other (b := w.heap.size) (i := 0) (by omega) (by omega) (.slice (some ⟨wr.heap.size, 0, none⟩) 1 1)).alloc (.cells #[.int .i64 5] 3)
        have hF5 := (hF3.out.set (Nat.le_refl _) 0 (.slice (some ⟨wr.heap.size, 0, none⟩) 1 1)).alloc (.cells #[.int .i64 5] 3)
        have kres := ((hB3.set 0 (.slice (some ⟨wr.heap.size, 0, none⟩) 1 1)).alloc (.cells #[.int .i64 5] 3)).cell (i := 0) (v := .slice (some ⟨wr.heap.size, 0, none⟩) 1 1) rfl
        change Own _ _ (World.alloc _ (.cells #[.int .i64 5] _)) _ _ at hO5
        generalize (wr.setCell ⟨w.heap.size, 0, none⟩ (.slice (some ⟨wr.heap.size, 0, none⟩) 1 1)).alloc (.cells #[.int .i64 5] 3) = w5 at kres hO5 hC5 hF5 ⊢
        refine bodyPost_ret (v := .agg #[.slice (some ⟨wr.heap.size, 0, none⟩) 1 1]) (by simp [results, Tryz.results105, go_sem, kres]) rfl ⟨_, [5], _, rfl, hO5, hC5, hF5⟩
      · have hO := (own_made (TI := 3) (n := 0) (by omega) (Ext.refl wr) [] rfl)
        have hIL := (hO3.alloc (.cells #[] 3)).ints
        have hEr := (Ext.refl wr).alloc (.cells #[] 3)
        go_wp2_with (at_builtin; refine wp_appends slI rfl _ _ rfl _ _ _ _ _ _ hO hIL hEr (by simp; omega) rfl rfl ?_; intro v1 w4 hO4 hE4; obtain ⟨a4, c4, rfl, -⟩ := hO4.shape; rw [List.nil_append] at hO4; have hB4 := hB3.ext hE4; have k4 := hB4.cell (i := 0) (v := .slice none 0 0) rfl; have f4 := hB4.free 0)
        have kres := (hB4.set 0 (.slice a4 L.length c4)).cell (i := 0) (v := .slice a4 L.length c4) rfl
        have hO5 := (Own.setCell_below hO4 (p := ⟨w.heap.size, 0, none⟩) hsw (.slice a4 L.length c4)).low (Nat.le_of_lt hsw)
        have hC5 := (hC.ext hE4).other (b := w.heap.size) (i := 0) (by omega) (by omega) (.slice a4 L.length c4)
        have hF5 := (hF3.out.trans (hE4.drw p)).set (Nat.le_refl _) 0 (.slice a4 L.length c4)
        generalize w4.setCell ⟨w.heap.size, 0, none⟩ (.slice a4 L.length c4) = w5 at kres hO5 hC5 hF5 ⊢
        refine bodyPost_ret (v := .agg #[.slice a4 L.length c4]) (by simp [results, Tryz.results105, go_sem, kres]) rfl ⟨_, L, _, rfl, hO5, hC5, hF5⟩
end Go.Zz
