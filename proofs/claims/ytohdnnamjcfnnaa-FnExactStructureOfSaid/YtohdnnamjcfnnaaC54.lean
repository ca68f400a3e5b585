/- What a set is: StructureOf. -/
import Derived.Test.YtohdnnamjcfnnaaC53
namespace Go.Zz
open Go.RowKit Go.Proofs
set_option maxHeartbeats 2000000
set_option linter.unusedSimpArgs false
set_option maxRecDepth 20000

noncomputable def stF (l : List Int) (a : Int) : ByteArray :=
  if isSetB l a then if a = 0 then ⟨#[101, 109, 112, 116, 121]⟩ else if (decide (a.toNat = fullN l)) then ⟨#[119, 104, 111, 108, 101]⟩ else if cstB l a then ⟨#[99, 111, 115, 101, 116]⟩ else if perF l a then ⟨#[112, 101, 114, 105, 111, 100, 105, 99]⟩ else if proB l a then ⟨#[112, 114, 111, 103, 114, 101, 115, 115, 105, 111, 110]⟩ else if boxB l a then ⟨#[98, 111, 120]⟩ else if sidB l a then ⟨#[115, 105, 100, 111, 110]⟩ else ⟨#[111, 116, 104, 101, 114]⟩
  else ⟨#[]⟩
theorem st_no {l : List Int} {a : Int} (h : isSetB l a = false) : stF l a = ⟨#[]⟩ := by unfold stF; rw [h]; rfl
theorem st_zero {l : List Int} (h : isSetB l ((0 : Nat) : Int) = true) : stF l ((0 : Nat) : Int) = ⟨#[101, 109, 112, 116, 121]⟩ := by unfold stF; rw [h]; rfl
theorem st_0 {l : List Int} {n : Nat} (h : isSetB l n = true) (h0' : n ≠ 0)  (h0 : decide (n = fullN l) = true) : stF l n = ⟨#[119, 104, 111, 108, 101]⟩ := by
  unfold stF
  rw [if_pos h, if_neg (by omega)]
  simp only [Int.toNat_natCast, h0, if_true, if_false, Bool.false_eq_true]
theorem st_1 {l : List Int} {n : Nat} (h : isSetB l n = true) (h0' : n ≠ 0) (h0 : decide (n = fullN l) = false) (h1 : cstB l n = true) : stF l n = ⟨#[99, 111, 115, 101, 116]⟩ := by
  unfold stF
  rw [if_pos h, if_neg (by omega)]
  simp only [Int.toNat_natCast, h0, h1, if_true, if_false, Bool.false_eq_true]
theorem st_2 {l : List Int} {n : Nat} (h : isSetB l n = true) (h0' : n ≠ 0) (h0 : decide (n = fullN l) = false) (h1 : cstB l n = false) (h2 : perF l n = true) : stF l n = ⟨#[112, 101, 114, 105, 111, 100, 105, 99]⟩ := by
  unfold stF
  rw [if_pos h, if_neg (by omega)]
  simp only [Int.toNat_natCast, h0, h1, h2, if_true, if_false, Bool.false_eq_true]
theorem st_3 {l : List Int} {n : Nat} (h : isSetB l n = true) (h0' : n ≠ 0) (h0 : decide (n = fullN l) = false) (h1 : cstB l n = false) (h2 : perF l n = false) (h3 : proB l n = true) : stF l n = ⟨#[112, 114, 111, 103, 114, 101, 115, 115, 105, 111, 110]⟩ := by
  unfold stF
  rw [if_pos h, if_neg (by omega)]
  simp only [Int.toNat_natCast, h0, h1, h2, h3, if_true, if_false, Bool.false_eq_true]
theorem st_4 {l : List Int} {n : Nat} (h : isSetB l n = true) (h0' : n ≠ 0) (h0 : decide (n = fullN l) = false) (h1 : cstB l n = false) (h2 : perF l n = false) (h3 : proB l n = false) (h4 : boxB l n = true) : stF l n = ⟨#[98, 111, 120]⟩ := by
  unfold stF
  rw [if_pos h, if_neg (by omega)]
  simp only [Int.toNat_natCast, h0, h1, h2, h3, h4, if_true, if_false, Bool.false_eq_true]
theorem st_5 {l : List Int} {n : Nat} (h : isSetB l n = true) (h0' : n ≠ 0) (h0 : decide (n = fullN l) = false) (h1 : cstB l n = false) (h2 : perF l n = false) (h3 : proB l n = false) (h4 : boxB l n = false) (h5 : sidB l n = true) : stF l n = ⟨#[115, 105, 100, 111, 110]⟩ := by
  unfold stF
  rw [if_pos h, if_neg (by omega)]
  simp only [Int.toNat_natCast, h0, h1, h2, h3, h4, h5, if_true, if_false, Bool.false_eq_true]
theorem st_6 {l : List Int} {n : Nat} (h : isSetB l n = true) (h0' : n ≠ 0) (h0 : decide (n = fullN l) = false) (h1 : cstB l n = false) (h2 : perF l n = false) (h3 : proB l n = false) (h4 : boxB l n = false) (h5 : sidB l n = false) : stF l n = ⟨#[111, 116, 104, 101, 114]⟩ := by
  unfold stF
  rw [if_pos h, if_neg (by omega)]
  simp only [Int.toNat_natCast, h0, h1, h2, h3, h4, h5, if_true, if_false, Bool.false_eq_true]
theorem StructureOf_any (v : Value) (l : List Int) (a : Int) (w : World) (h : Ints w v l) :
    Calls Try.prog 71 #[.agg #[v], .int .i64 a] w fun e w' => e = .returned (.string (stF l a)) ∧ Ext w w' := by
  obtain ⟨wb, hwb⟩ : ∃ wb, wb = w.alloc (.cells #[v] 28) := ⟨_, rfl⟩
  have hE0 := (Ext.refl w).alloc (.cells #[v] 28)
  have hb := box_cell w v 28
  rw [← hwb] at hE0 hb
  have hg : ∀ W, Ext wb W → Ints W v l := fun W hW => h.ext (hE0.trans hW)
  have hE := Ext.refl wb
  have Hsz : Hid (w.heap.size + 1 = wb.heap.size) := Lib.hid (by rw [hwb]; simp [go_sem])
  have Hwb := Lib.hid hwb
  clear hwb h
  have hbx := hb wb hE
  cases hs : isSetB l a
  · have Hs := Lib.hid (st_no hs)
    go_enter Try.func71, Try.ntmps71
    go_wp2_with fail
    rw [← Hwb.out]
    go_wp2_with (first | (go_at_call 157; refine (IsSet_val _ _ _ _ (hg _ hE) (hs)).mono ?_; rintro e w' ⟨rfl, hE'⟩; replace hE := hE.trans hE'; clear hE'))
    go_ret
    exact ⟨ret_str Hs.out.symm, hE0.trans hE⟩
  · obtain ⟨n, rfl, h1, h2, hgr⟩ := isSetB_nat hs
    by_cases h0 : n = 0
    · subst h0
      have Hs := Lib.hid (st_zero hs)
      go_enter Try.func71, Try.ntmps71
      go_wp2_with fail
      rw [← Hwb.out]
      go_wp2_with (first | (go_at_call 157; refine (IsSet_val _ _ _ _ (hg _ hE) (hs)).mono ?_; rintro e w' ⟨rfl, hE'⟩; replace hE := hE.trans hE'; clear hE'))
      go_ret
      exact ⟨ret_str Hs.out.symm, hE0.trans hE⟩
    · have h0' : ((n : Int) == 0) = false := by simp; omega
      have H0 := Lib.hid h0
      have Hgr := Lib.hid hgr
      have hob := ord_bd hgr
      have hfl := fullN_lt l
      have hfb := Nat.lt_of_lt_of_le hfl (pow_ord hgr)
      have hs1 := ishl_one (n := ord l) (by omega)
      have hpw := pw_le hob.2
      have hpp := pw_pos (ord l)
      have Hfw : Hid (((pw (ord l) : Nat) : Int) - 1 = (fullN l : Int)) := Lib.hid (by unfold fullN; omega)
      clear hgr h0
      cases c0 : decide (n = fullN l)
      rotate_left
      ·
        have Hz := Lib.hid (st_0 hs H0.out c0)
        have hfe : ((n : Int) == (fullN l : Int)) = decide (n = fullN l) := (by rw [Bool.eq_iff_iff]; simp; omega); rw [c0] at hfe
        skip
        go_enter Try.func71, Try.ntmps71
        go_wp2_with fail
        rw [← Hwb.out]
        go_wp2_with (first | (go_at_call 157; refine (IsSet_val _ _ _ _ (hg _ hE) (hs)).mono ?_; rintro e w' ⟨rfl, hE'⟩; replace hE := hE.trans hE'; clear hE') | (go_at_call 173; refine (FullSet_grp _ _ _ (hg _ hE) (Hgr)).mono ?_; rintro e w' ⟨rfl, hE'⟩; replace hE := hE.trans hE'; clear hE'))
        go_ret
        exact ⟨ret_str Hz.out.symm, hE0.trans hE⟩
      cases c1 : cstB l n
      rotate_left
      ·
        have Hz := Lib.hid (st_1 hs H0.out c0 c1)
        have hfe : ((n : Int) == (fullN l : Int)) = decide (n = fullN l) := (by rw [Bool.eq_iff_iff]; simp; omega); rw [c0] at hfe
        skip
        go_enter Try.func71, Try.ntmps71
        go_wp2_with fail
        rw [← Hwb.out]
        go_wp2_with (first | (go_at_call 157; refine (IsSet_val _ _ _ _ (hg _ hE) (hs)).mono ?_; rintro e w' ⟨rfl, hE'⟩; replace hE := hE.trans hE'; clear hE') | (go_at_call 173; refine (FullSet_grp _ _ _ (hg _ hE) (Hgr)).mono ?_; rintro e w' ⟨rfl, hE'⟩; replace hE := hE.trans hE'; clear hE') | (go_at_call 174; refine (IsCoset_val _ _ _ _ (hg _ hE) c1).mono ?_; rintro e w' ⟨rfl, hE'⟩; replace hE := hE.trans hE'; clear hE'))
        go_ret
        exact ⟨ret_str Hz.out.symm, hE0.trans hE⟩
      cases c2 : perF l n
      rotate_left
      ·
        have Hz := Lib.hid (st_2 hs H0.out c0 c1 c2)
        have hfe : ((n : Int) == (fullN l : Int)) = decide (n = fullN l) := (by rw [Bool.eq_iff_iff]; simp; omega); rw [c0] at hfe
        skip
        go_enter Try.func71, Try.ntmps71
        go_wp2_with fail
        rw [← Hwb.out]
        go_wp2_with (first | (go_at_call 157; refine (IsSet_val _ _ _ _ (hg _ hE) (hs)).mono ?_; rintro e w' ⟨rfl, hE'⟩; replace hE := hE.trans hE'; clear hE') | (go_at_call 173; refine (FullSet_grp _ _ _ (hg _ hE) (Hgr)).mono ?_; rintro e w' ⟨rfl, hE'⟩; replace hE := hE.trans hE'; clear hE') | (go_at_call 174; refine (IsCoset_val _ _ _ _ (hg _ hE) c1).mono ?_; rintro e w' ⟨rfl, hE'⟩; replace hE := hE.trans hE'; clear hE') | (go_at_call 134; refine (IsPeriodic_val _ _ _ _ (hg _ hE) c2).mono ?_; rintro e w' ⟨rfl, hE'⟩; replace hE := hE.trans hE'; clear hE'))
        go_ret
        exact ⟨ret_str Hz.out.symm, hE0.trans hE⟩
      cases c3 : proB l n
      rotate_left
      ·
        have Hz := Lib.hid (st_3 hs H0.out c0 c1 c2 c3)
        have hfe : ((n : Int) == (fullN l : Int)) = decide (n = fullN l) := (by rw [Bool.eq_iff_iff]; simp; omega); rw [c0] at hfe
        skip
        go_enter Try.func71, Try.ntmps71
        go_wp2_with fail
        rw [← Hwb.out]
        go_wp2_with (first | (go_at_call 157; refine (IsSet_val _ _ _ _ (hg _ hE) (hs)).mono ?_; rintro e w' ⟨rfl, hE'⟩; replace hE := hE.trans hE'; clear hE') | (go_at_call 173; refine (FullSet_grp _ _ _ (hg _ hE) (Hgr)).mono ?_; rintro e w' ⟨rfl, hE'⟩; replace hE := hE.trans hE'; clear hE') | (go_at_call 174; refine (IsCoset_val _ _ _ _ (hg _ hE) c1).mono ?_; rintro e w' ⟨rfl, hE'⟩; replace hE := hE.trans hE'; clear hE') | (go_at_call 134; refine (IsPeriodic_val _ _ _ _ (hg _ hE) c2).mono ?_; rintro e w' ⟨rfl, hE'⟩; replace hE := hE.trans hE'; clear hE') | (go_at_call 175; refine (IsProgression_val _ _ _ _ (hg _ hE) c3).mono ?_; rintro e w' ⟨rfl, hE'⟩; replace hE := hE.trans hE'; clear hE'))
        go_ret
        exact ⟨ret_str Hz.out.symm, hE0.trans hE⟩
      cases c4 : boxB l n
      rotate_left
      ·
        have Hz := Lib.hid (st_4 hs H0.out c0 c1 c2 c3 c4)
        have hfe : ((n : Int) == (fullN l : Int)) = decide (n = fullN l) := (by rw [Bool.eq_iff_iff]; simp; omega); rw [c0] at hfe
        skip
        go_enter Try.func71, Try.ntmps71
        go_wp2_with fail
        rw [← Hwb.out]
        go_wp2_with (first | (go_at_call 157; refine (IsSet_val _ _ _ _ (hg _ hE) (hs)).mono ?_; rintro e w' ⟨rfl, hE'⟩; replace hE := hE.trans hE'; clear hE') | (go_at_call 173; refine (FullSet_grp _ _ _ (hg _ hE) (Hgr)).mono ?_; rintro e w' ⟨rfl, hE'⟩; replace hE := hE.trans hE'; clear hE') | (go_at_call 174; refine (IsCoset_val _ _ _ _ (hg _ hE) c1).mono ?_; rintro e w' ⟨rfl, hE'⟩; replace hE := hE.trans hE'; clear hE') | (go_at_call 134; refine (IsPeriodic_val _ _ _ _ (hg _ hE) c2).mono ?_; rintro e w' ⟨rfl, hE'⟩; replace hE := hE.trans hE'; clear hE') | (go_at_call 175; refine (IsProgression_val _ _ _ _ (hg _ hE) c3).mono ?_; rintro e w' ⟨rfl, hE'⟩; replace hE := hE.trans hE'; clear hE') | (go_at_call 176; refine (IsBox_val _ _ _ _ (hg _ hE) c4).mono ?_; rintro e w' ⟨rfl, hE'⟩; replace hE := hE.trans hE'; clear hE'))
        go_ret
        exact ⟨ret_str Hz.out.symm, hE0.trans hE⟩
      cases c5 : sidB l n
      rotate_left
      ·
        have Hz := Lib.hid (st_5 hs H0.out c0 c1 c2 c3 c4 c5)
        have hfe : ((n : Int) == (fullN l : Int)) = decide (n = fullN l) := (by rw [Bool.eq_iff_iff]; simp; omega); rw [c0] at hfe
        skip
        go_enter Try.func71, Try.ntmps71
        go_wp2_with fail
        rw [← Hwb.out]
        go_wp2_with (first | (go_at_call 157; refine (IsSet_val _ _ _ _ (hg _ hE) (hs)).mono ?_; rintro e w' ⟨rfl, hE'⟩; replace hE := hE.trans hE'; clear hE') | (go_at_call 173; refine (FullSet_grp _ _ _ (hg _ hE) (Hgr)).mono ?_; rintro e w' ⟨rfl, hE'⟩; replace hE := hE.trans hE'; clear hE') | (go_at_call 174; refine (IsCoset_val _ _ _ _ (hg _ hE) c1).mono ?_; rintro e w' ⟨rfl, hE'⟩; replace hE := hE.trans hE'; clear hE') | (go_at_call 134; refine (IsPeriodic_val _ _ _ _ (hg _ hE) c2).mono ?_; rintro e w' ⟨rfl, hE'⟩; replace hE := hE.trans hE'; clear hE') | (go_at_call 175; refine (IsProgression_val _ _ _ _ (hg _ hE) c3).mono ?_; rintro e w' ⟨rfl, hE'⟩; replace hE := hE.trans hE'; clear hE') | (go_at_call 176; refine (IsBox_val _ _ _ _ (hg _ hE) c4).mono ?_; rintro e w' ⟨rfl, hE'⟩; replace hE := hE.trans hE'; clear hE') | (go_at_call 177; refine (IsSidon_val _ _ _ _ (hg _ hE) c5).mono ?_; rintro e w' ⟨rfl, hE'⟩; replace hE := hE.trans hE'; clear hE'))
        go_ret
        exact ⟨ret_str Hz.out.symm, hE0.trans hE⟩
      have Hz := Lib.hid (st_6 hs H0.out c0 c1 c2 c3 c4 c5)
      have hfe : ((n : Int) == (fullN l : Int)) = decide (n = fullN l) := (by rw [Bool.eq_iff_iff]; simp; omega); rw [c0] at hfe
      skip
      go_enter Try.func71, Try.ntmps71
      go_wp2_with fail
      rw [← Hwb.out]
      go_wp2_with (first | (go_at_call 157; refine (IsSet_val _ _ _ _ (hg _ hE) (hs)).mono ?_; rintro e w' ⟨rfl, hE'⟩; replace hE := hE.trans hE'; clear hE') | (go_at_call 173; refine (FullSet_grp _ _ _ (hg _ hE) (Hgr)).mono ?_; rintro e w' ⟨rfl, hE'⟩; replace hE := hE.trans hE'; clear hE') | (go_at_call 174; refine (IsCoset_val _ _ _ _ (hg _ hE) c1).mono ?_; rintro e w' ⟨rfl, hE'⟩; replace hE := hE.trans hE'; clear hE') | (go_at_call 134; refine (IsPeriodic_val _ _ _ _ (hg _ hE) c2).mono ?_; rintro e w' ⟨rfl, hE'⟩; replace hE := hE.trans hE'; clear hE') | (go_at_call 175; refine (IsProgression_val _ _ _ _ (hg _ hE) c3).mono ?_; rintro e w' ⟨rfl, hE'⟩; replace hE := hE.trans hE'; clear hE') | (go_at_call 176; refine (IsBox_val _ _ _ _ (hg _ hE) c4).mono ?_; rintro e w' ⟨rfl, hE'⟩; replace hE := hE.trans hE'; clear hE') | (go_at_call 177; refine (IsSidon_val _ _ _ _ (hg _ hE) c5).mono ?_; rintro e w' ⟨rfl, hE'⟩; replace hE := hE.trans hE'; clear hE'))
      go_ret
      exact ⟨ret_str Hz.out.symm, hE0.trans hE⟩
theorem sStructureOf_any (v : Value) (l : List Int) (a : Int) (w : World) (h : Ints w v l) :
    Calls Try.prog 70 #[.agg #[v], .int .i64 a] w fun e w' => e = .returned (.string (stF l a)) ∧ Ext w w' := by
  obtain ⟨wb, hwb⟩ : ∃ wb, wb = w.alloc (.cells #[v] 28) := ⟨_, rfl⟩
  have hE0 := (Ext.refl w).alloc (.cells #[v] 28)
  have hb := box_cell w v 28
  rw [← hwb] at hE0 hb
  have hg : ∀ W, Ext wb W → Ints W v l := fun W hW => h.ext (hE0.trans hW)
  have hE := Ext.refl wb
  have Hsz : Hid (w.heap.size + 1 = wb.heap.size) := Lib.hid (by rw [hwb]; simp [go_sem])
  have Hwb := Lib.hid hwb
  clear hwb h
  have hbx := hb wb hE
  cases hs : isSetB l a
  · have Hs := Lib.hid (st_no hs)
    go_enter Try.func70, Try.ntmps70
    go_wp2_with fail
    rw [← Hwb.out]
    go_wp2_with (first | (go_at_call 162; refine (sIsSet_val _ _ _ _ (hg _ hE) (hs)).mono ?_; rintro e w' ⟨rfl, hE'⟩; replace hE := hE.trans hE'; clear hE'))
    go_ret
    exact ⟨ret_str Hs.out.symm, hE0.trans hE⟩
  · obtain ⟨n, rfl, h1, h2, hgr⟩ := isSetB_nat hs
    by_cases h0 : n = 0
    · subst h0
      have Hs := Lib.hid (st_zero hs)
      go_enter Try.func70, Try.ntmps70
      go_wp2_with fail
      rw [← Hwb.out]
      go_wp2_with (first | (go_at_call 162; refine (sIsSet_val _ _ _ _ (hg _ hE) (hs)).mono ?_; rintro e w' ⟨rfl, hE'⟩; replace hE := hE.trans hE'; clear hE'))
      go_ret
      exact ⟨ret_str Hs.out.symm, hE0.trans hE⟩
    · have h0' : ((n : Int) == 0) = false := by simp; omega
      have H0 := Lib.hid h0
      have Hgr := Lib.hid hgr
      have hob := ord_bd hgr
      have hfl := fullN_lt l
      have hfb := Nat.lt_of_lt_of_le hfl (pow_ord hgr)
      have hs1 := ishl_one (n := ord l) (by omega)
      have hpw := pw_le hob.2
      have hpp := pw_pos (ord l)
      have Hfw : Hid (((pw (ord l) : Nat) : Int) - 1 = (fullN l : Int)) := Lib.hid (by unfold fullN; omega)
      clear hgr h0
      cases c0 : decide (n = fullN l)
      rotate_left
      ·
        have Hz := Lib.hid (st_0 hs H0.out c0)
        have hfe : ((n : Int) == ((pw (ord l) : Nat) : Int) - 1) = decide (n = fullN l) := (by rw [Hfw.out, Bool.eq_iff_iff]; simp; omega); rw [c0] at hfe
        skip
        go_enter Try.func70, Try.ntmps70
        go_wp2_with fail
        rw [← Hwb.out]
        go_wp2_with (first | (go_at_call 162; refine (sIsSet_val _ _ _ _ (hg _ hE) (hs)).mono ?_; rintro e w' ⟨rfl, hE'⟩; replace hE := hE.trans hE'; clear hE') | (go_at_call 168; refine (l2Order_any _ _ _ (hg _ hE) (Hgr)).mono ?_; rintro e w' ⟨rfl, hE'⟩; replace hE := hE.trans hE'; clear hE'))
        go_ret
        exact ⟨ret_str Hz.out.symm, hE0.trans hE⟩
      cases c1 : cstB l n
      rotate_left
      ·
        have Hz := Lib.hid (st_1 hs H0.out c0 c1)
        have hfe : ((n : Int) == ((pw (ord l) : Nat) : Int) - 1) = decide (n = fullN l) := (by rw [Hfw.out, Bool.eq_iff_iff]; simp; omega); rw [c0] at hfe
        skip
        go_enter Try.func70, Try.ntmps70
        go_wp2_with fail
        rw [← Hwb.out]
        go_wp2_with (first | (go_at_call 162; refine (sIsSet_val _ _ _ _ (hg _ hE) (hs)).mono ?_; rintro e w' ⟨rfl, hE'⟩; replace hE := hE.trans hE'; clear hE') | (go_at_call 168; refine (l2Order_any _ _ _ (hg _ hE) (Hgr)).mono ?_; rintro e w' ⟨rfl, hE'⟩; replace hE := hE.trans hE'; clear hE') | (go_at_call 169; refine (sIsCoset_val _ _ _ _ (hg _ hE) c1).mono ?_; rintro e w' ⟨rfl, hE'⟩; replace hE := hE.trans hE'; clear hE'))
        go_ret
        exact ⟨ret_str Hz.out.symm, hE0.trans hE⟩
      cases c2 : perF l n
      rotate_left
      ·
        have Hz := Lib.hid (st_2 hs H0.out c0 c1 c2)
        have hfe : ((n : Int) == ((pw (ord l) : Nat) : Int) - 1) = decide (n = fullN l) := (by rw [Hfw.out, Bool.eq_iff_iff]; simp; omega); rw [c0] at hfe
        skip
        go_enter Try.func70, Try.ntmps70
        go_wp2_with fail
        rw [← Hwb.out]
        go_wp2_with (first | (go_at_call 162; refine (sIsSet_val _ _ _ _ (hg _ hE) (hs)).mono ?_; rintro e w' ⟨rfl, hE'⟩; replace hE := hE.trans hE'; clear hE') | (go_at_call 168; refine (l2Order_any _ _ _ (hg _ hE) (Hgr)).mono ?_; rintro e w' ⟨rfl, hE'⟩; replace hE := hE.trans hE'; clear hE') | (go_at_call 169; refine (sIsCoset_val _ _ _ _ (hg _ hE) c1).mono ?_; rintro e w' ⟨rfl, hE'⟩; replace hE := hE.trans hE'; clear hE') | (go_at_call 130; refine (sIsPeriodic_val _ _ _ _ (hg _ hE) c2).mono ?_; rintro e w' ⟨rfl, hE'⟩; replace hE := hE.trans hE'; clear hE'))
        go_ret
        exact ⟨ret_str Hz.out.symm, hE0.trans hE⟩
      cases c3 : proB l n
      rotate_left
      ·
        have Hz := Lib.hid (st_3 hs H0.out c0 c1 c2 c3)
        have hfe : ((n : Int) == ((pw (ord l) : Nat) : Int) - 1) = decide (n = fullN l) := (by rw [Hfw.out, Bool.eq_iff_iff]; simp; omega); rw [c0] at hfe
        skip
        go_enter Try.func70, Try.ntmps70
        go_wp2_with fail
        rw [← Hwb.out]
        go_wp2_with (first | (go_at_call 162; refine (sIsSet_val _ _ _ _ (hg _ hE) (hs)).mono ?_; rintro e w' ⟨rfl, hE'⟩; replace hE := hE.trans hE'; clear hE') | (go_at_call 168; refine (l2Order_any _ _ _ (hg _ hE) (Hgr)).mono ?_; rintro e w' ⟨rfl, hE'⟩; replace hE := hE.trans hE'; clear hE') | (go_at_call 169; refine (sIsCoset_val _ _ _ _ (hg _ hE) c1).mono ?_; rintro e w' ⟨rfl, hE'⟩; replace hE := hE.trans hE'; clear hE') | (go_at_call 130; refine (sIsPeriodic_val _ _ _ _ (hg _ hE) c2).mono ?_; rintro e w' ⟨rfl, hE'⟩; replace hE := hE.trans hE'; clear hE') | (go_at_call 170; refine (sIsProgression_val _ _ _ _ (hg _ hE) c3).mono ?_; rintro e w' ⟨rfl, hE'⟩; replace hE := hE.trans hE'; clear hE'))
        go_ret
        exact ⟨ret_str Hz.out.symm, hE0.trans hE⟩
      cases c4 : boxB l n
      rotate_left
      ·
        have Hz := Lib.hid (st_4 hs H0.out c0 c1 c2 c3 c4)
        have hfe : ((n : Int) == ((pw (ord l) : Nat) : Int) - 1) = decide (n = fullN l) := (by rw [Hfw.out, Bool.eq_iff_iff]; simp; omega); rw [c0] at hfe
        skip
        go_enter Try.func70, Try.ntmps70
        go_wp2_with fail
        rw [← Hwb.out]
        go_wp2_with (first | (go_at_call 162; refine (sIsSet_val _ _ _ _ (hg _ hE) (hs)).mono ?_; rintro e w' ⟨rfl, hE'⟩; replace hE := hE.trans hE'; clear hE') | (go_at_call 168; refine (l2Order_any _ _ _ (hg _ hE) (Hgr)).mono ?_; rintro e w' ⟨rfl, hE'⟩; replace hE := hE.trans hE'; clear hE') | (go_at_call 169; refine (sIsCoset_val _ _ _ _ (hg _ hE) c1).mono ?_; rintro e w' ⟨rfl, hE'⟩; replace hE := hE.trans hE'; clear hE') | (go_at_call 130; refine (sIsPeriodic_val _ _ _ _ (hg _ hE) c2).mono ?_; rintro e w' ⟨rfl, hE'⟩; replace hE := hE.trans hE'; clear hE') | (go_at_call 170; refine (sIsProgression_val _ _ _ _ (hg _ hE) c3).mono ?_; rintro e w' ⟨rfl, hE'⟩; replace hE := hE.trans hE'; clear hE') | (go_at_call 171; refine (sIsBox_val _ _ _ _ (hg _ hE) c4).mono ?_; rintro e w' ⟨rfl, hE'⟩; replace hE := hE.trans hE'; clear hE'))
        go_ret
        exact ⟨ret_str Hz.out.symm, hE0.trans hE⟩
      cases c5 : sidB l n
      rotate_left
      ·
        have Hz := Lib.hid (st_5 hs H0.out c0 c1 c2 c3 c4 c5)
        have hfe : ((n : Int) == ((pw (ord l) : Nat) : Int) - 1) = decide (n = fullN l) := (by rw [Hfw.out, Bool.eq_iff_iff]; simp; omega); rw [c0] at hfe
        skip
        go_enter Try.func70, Try.ntmps70
        go_wp2_with fail
        rw [← Hwb.out]
        go_wp2_with (first | (go_at_call 162; refine (sIsSet_val _ _ _ _ (hg _ hE) (hs)).mono ?_; rintro e w' ⟨rfl, hE'⟩; replace hE := hE.trans hE'; clear hE') | (go_at_call 168; refine (l2Order_any _ _ _ (hg _ hE) (Hgr)).mono ?_; rintro e w' ⟨rfl, hE'⟩; replace hE := hE.trans hE'; clear hE') | (go_at_call 169; refine (sIsCoset_val _ _ _ _ (hg _ hE) c1).mono ?_; rintro e w' ⟨rfl, hE'⟩; replace hE := hE.trans hE'; clear hE') | (go_at_call 130; refine (sIsPeriodic_val _ _ _ _ (hg _ hE) c2).mono ?_; rintro e w' ⟨rfl, hE'⟩; replace hE := hE.trans hE'; clear hE') | (go_at_call 170; refine (sIsProgression_val _ _ _ _ (hg _ hE) c3).mono ?_; rintro e w' ⟨rfl, hE'⟩; replace hE := hE.trans hE'; clear hE') | (go_at_call 171; refine (sIsBox_val _ _ _ _ (hg _ hE) c4).mono ?_; rintro e w' ⟨rfl, hE'⟩; replace hE := hE.trans hE'; clear hE') | (go_at_call 172; refine (sIsSidon_val _ _ _ _ (hg _ hE) c5).mono ?_; rintro e w' ⟨rfl, hE'⟩; replace hE := hE.trans hE'; clear hE'))
        go_ret
        exact ⟨ret_str Hz.out.symm, hE0.trans hE⟩
      have Hz := Lib.hid (st_6 hs H0.out c0 c1 c2 c3 c4 c5)
      have hfe : ((n : Int) == ((pw (ord l) : Nat) : Int) - 1) = decide (n = fullN l) := (by rw [Hfw.out, Bool.eq_iff_iff]; simp; omega); rw [c0] at hfe
      skip
      go_enter Try.func70, Try.ntmps70
      go_wp2_with fail
      rw [← Hwb.out]
      go_wp2_with (first | (go_at_call 162; refine (sIsSet_val _ _ _ _ (hg _ hE) (hs)).mono ?_; rintro e w' ⟨rfl, hE'⟩; replace hE := hE.trans hE'; clear hE') | (go_at_call 168; refine (l2Order_any _ _ _ (hg _ hE) (Hgr)).mono ?_; rintro e w' ⟨rfl, hE'⟩; replace hE := hE.trans hE'; clear hE') | (go_at_call 169; refine (sIsCoset_val _ _ _ _ (hg _ hE) c1).mono ?_; rintro e w' ⟨rfl, hE'⟩; replace hE := hE.trans hE'; clear hE') | (go_at_call 130; refine (sIsPeriodic_val _ _ _ _ (hg _ hE) c2).mono ?_; rintro e w' ⟨rfl, hE'⟩; replace hE := hE.trans hE'; clear hE') | (go_at_call 170; refine (sIsProgression_val _ _ _ _ (hg _ hE) c3).mono ?_; rintro e w' ⟨rfl, hE'⟩; replace hE := hE.trans hE'; clear hE') | (go_at_call 171; refine (sIsBox_val _ _ _ _ (hg _ hE) c4).mono ?_; rintro e w' ⟨rfl, hE'⟩; replace hE := hE.trans hE'; clear hE') | (go_at_call 172; refine (sIsSidon_val _ _ _ _ (hg _ hE) c5).mono ?_; rintro e w' ⟨rfl, hE'⟩; replace hE := hE.trans hE'; clear hE'))
      go_ret
      exact ⟨ret_str Hz.out.symm, hE0.trans hE⟩
end Go.Zz
