/- The smallest sums of all pairs of sets are those of the formula: the walk through the law. -/
import Derived.Test.YtgjomoedgmofbaaCs
import Derived.Test.YtgjomoedgmofbaaDx
import Derived.Test.YtgjomoedgmofbaaPx
namespace Go.Zz
open Go.RowKit Go.Proofs
set_option maxHeartbeats 4000000
set_option maxRecDepth 20000

--%call LeastSumset 12 ext LeastSumset_any _ _ _ _ _ ({0})
--%call sLeastSumset 13 ext sLeastSumset_any _ _ _ _ _ ({0})
--%call LeastSize 14 ext LeastSize_any _ _ _ _ _ ({0})
--%call sLeastSize 15 ext sLeastSize_any _ _ _ _ _ ({0})
--%call LeastDouble 21 ext LeastDouble_any _ _ _ _ ({0})
--%call sLeastDouble 22 ext sLeastDouble_any _ _ _ _ ({0})
--%call MostDouble 23 ext MostDouble_any _ _ _ _ ({0})
--%call sMostDouble 24 ext sMostDouble_any _ _ _ _ ({0})
theorem FnExtremal_walk {v : Value} {l : List Int} {w : World} (h : Byts w v l) :
    Calls Try.prog 3 #[v] w fun e w' => e = .returned (.bool true) ∧ Ext w w' := by
  go_enter Try.func3, Try.ntmps3
  go_wp2_with fail
  refine (big_any _ _ _ h).mono ?_
  rintro e w0 ⟨b, rfl, hE0⟩
  cases b
  rotate_left
  · go_wp2_with fail
    go_ret
    exact ⟨rfl, hE0⟩
  go_wp2_with fail
  refine (DrawLeastSumset_any _ _ _ (h.ext hE0)).mono ?_
  rintro e w1 ⟨ao, L, c, n, m, rfl, hO, hn, hm, hE1⟩
  have hE2 := (Ext.refl w1).alloc (.cells #[.slice ao L.length c] 26)
  have hbb := box_cell w1 (.slice ao L.length c) 26
  have hg := fun W hW => (hO.ints.ext hE2).ext (w' := W) hW
  have HY := Lib.hid (h.ext (hE0.trans (hE1.trans hE2)))
  have HE := Lib.hid (hE0.trans (hE1.trans hE2))
  obtain ⟨wb, hwb⟩ : ∃ x, x = w1.alloc (.cells #[.slice ao L.length c] 26) := ⟨_, rfl⟩
  rw [← hwb] at hbb hg HY HE
  have Hwb := Lib.hid hwb
  have hE := Ext.refl wb
  clear hwb hE2 hO hE1 hE0 h
  go_wp2_with fail
  rw [← Hwb.out]
  cases his : lsB L n m
  · go_wp2_with (first | (go_at_call 12; refine (LeastSumset_any _ _ _ _ _ (hg _ hE)).mono ?_; rintro e w' ⟨rfl, hE'⟩; replace hE := hE.trans hE'; clear hE') | (go_at_call 13; refine (sLeastSumset_any _ _ _ _ _ (hg _ hE)).mono ?_; rintro e w' ⟨rfl, hE'⟩; replace hE := hE.trans hE'; clear hE') | (go_at_call 14; refine (LeastSize_any _ _ _ _ _ (hg _ hE)).mono ?_; rintro e w' ⟨rfl, hE'⟩; replace hE := hE.trans hE'; clear hE') | (go_at_call 15; refine (sLeastSize_any _ _ _ _ _ (hg _ hE)).mono ?_; rintro e w' ⟨rfl, hE'⟩; replace hE := hE.trans hE'; clear hE'))
    (refine wp_region_lat (wb) (by kernel_rfl) (by kernel_rfl) hE ?_); (repeat (go_big_quiet_step (first | (fail "no call")))); (refine wpQuiet_nil ?_); (intro W hE'); (replace hE := lat_of hE'); (clear hE')
    rename World => wq
    have HEq := Lib.hid (HE.out.trans hE)
    have HYq := Lib.hid (HY.out.ext hE)
    clear hE HE HY hbb hg Hwb his
    go_wp2_with fail
    refine (DrawLeastDouble_any _ _ _ (HYq.out)).mono ?_
    rintro e w3 ⟨ao3, L3, c3, e3, rfl, hO3, he3, hE3⟩
    have hE4 := (Ext.refl w3).alloc (.cells #[.slice ao3 L3.length c3] 26)
    have hbd := box_cell w3 (.slice ao3 L3.length c3) 26
    have hgd := fun W hW => (hO3.ints.ext hE4).ext (w' := W) hW
    have hB3 := hE4.trans (Ext.refl _)
    have HY3 := Lib.hid ((HYq.out).ext (hE3.trans hE4))
    obtain ⟨wd, hwd⟩ : ∃ x, x = w3.alloc (.cells #[.slice ao3 L3.length c3] 26) := ⟨_, rfl⟩
    rw [← hwd] at hE4 hbd hgd HY3
    have Hwd := Lib.hid hwd
    have HE4 := Lib.hid (hE3.trans hE4)
    have hE := Ext.refl wd
    clear hwd hB3 hO3 hE4
    go_wp2_with fail
    rw [← Hwd.out]
    cases hds : dblB L3 e3
    · go_wp2_with (first | (go_at_call 21; refine (LeastDouble_any _ _ _ _ (hgd _ hE)).mono ?_; rintro e w' ⟨rfl, hE'⟩; replace hE := hE.trans hE'; clear hE') | (go_at_call 22; refine (sLeastDouble_any _ _ _ _ (hgd _ hE)).mono ?_; rintro e w' ⟨rfl, hE'⟩; replace hE := hE.trans hE'; clear hE') | (go_at_call 23; refine (MostDouble_any _ _ _ _ (hgd _ hE)).mono ?_; rintro e w' ⟨rfl, hE'⟩; replace hE := hE.trans hE'; clear hE') | (go_at_call 24; refine (sMostDouble_any _ _ _ _ (hgd _ hE)).mono ?_; rintro e w' ⟨rfl, hE'⟩; replace hE := hE.trans hE'; clear hE'))
      have HY5 := Lib.hid (HY3.out.ext hE)
      have HE5 := Lib.hid ((HEq.out).trans (HE4.out.trans hE))
      clear hE hbd hgd Hwd HE4 HY3 hds
      refine (DrawSizeFormula_any _ _ _ HY5.out).mono ?_
      rintro e wS ⟨o, sn, sm, rfl, hES⟩
      go_wp2_with fail
      refine (DrawDivisorsOf_any _ _ _ (HY5.out.ext hES)).mono ?_
      rintro e wT ⟨dd, rfl, hET⟩
      have HE6 := Lib.hid (HE5.out.trans (hES.trans hET))
      have hE := Ext.refl wT
      clear hES hET HY5 HE5
      go_wp2_with (first | (go_at_call 18; refine (SizeFormula_any o sn sm _).mono ?_; rintro e w' ⟨rfl, hE'⟩; replace hE := hE.trans hE'; clear hE') | (go_at_call 27; refine (sSizeFormula_any o sn sm _).mono ?_; rintro e w' ⟨rfl, hE'⟩; replace hE := hE.trans hE'; clear hE') | (go_at_call 29; refine (DivisorsOf_any dd _).mono ?_; rintro e w' ⟨v1, rfl, hO1, hE1⟩; replace hE := hE.trans hE1) | (go_at_call 30; refine (sDivisorsOf_any dd _).mono ?_; rintro e w' ⟨v2, rfl, hO2, hE2⟩; replace hE := hE.trans hE2; have hI1 := (hO1.ext hE2).ints) | (go_at_call 28; refine (sameInts_any v1 v2 _ _ _ hI1 hO2.ints).mono ?_; rintro e w' ⟨rfl, hE'⟩; replace hE := hE.trans hE'; clear hE'))
      go_ret
      exact ⟨by simp, HE6.out.trans hE⟩
    · obtain ⟨y, hy, hyl, hcy, hq1, hq2, hq3⟩ := dbl_fact hds
      have hgr : isGrp L3 = true := by unfold dblB at hds; simp only [Bool.and_eq_true] at hds; exact hds.1.1
      have hyS := isSetB_of hgr hyl
      have c1 := fun W hW => sCountSet_any _ L3 (leastF L3 e3) W (hgd W hW)
      have c3 := fun W hW => sSumOfSets_any _ L3 (leastF L3 e3) (leastF L3 e3) W (hgd W hW)
      have c4 := fun W hW => sCountSet_any _ L3 (sumF L3 y y : Nat) W (hgd W hW)
      have c5 := fun W hW => sOrderOf_any _ L3 W (hgd W hW)
      have c6 := fun W => SizeFormula_any (ordF L3) e3 e3 W
      rw [show csF L3 (leastF L3 e3) = e3 by rw [hy, csF_yes hyS, hcy]] at c1
      rw [show ssF L3 (leastF L3 e3) (leastF L3 e3) = (sumF L3 y y : Nat) by rw [hy, ssF_yes (by rw [hyS]; rfl)]] at c3
      rw [csF_yes (isSetB_of hgr (sumF_lt (isGrp_ords hgr) y y))] at c4
      rw [← ordF_t hgr] at hq2
      have d1 := fun W hW => LeastDouble_any _ L3 e3 W (hgd W hW)
      have d2 := fun W hW => sLeastDouble_any _ L3 e3 W (hgd W hW)
      have d3 := fun W hW => MostDouble_any _ L3 e3 W (hgd W hW)
      have d4 := fun W hW => sMostDouble_any _ L3 e3 W (hgd W hW)
      have he1 : e3 * (e3 + 1) ≤ 56 ∧ 0 ≤ e3 * (e3 + 1) := by
        have h8 : e3 = 0 ∨ e3 = 1 ∨ e3 = 2 ∨ e3 = 3 ∨ e3 = 4 ∨ e3 = 5 ∨ e3 = 6 ∨ e3 = 7 := by omega
        rcases h8 with rfl | rfl | rfl | rfl | rfl | rfl | rfl | rfl <;> decide
      obtain ⟨P, hPd⟩ : ∃ P, P = e3 * (e3 + 1) := ⟨_, rfl⟩
      have hw1 : IntKind.i64.wrap (e3 + 1) = e3 + 1 := IntWalk.i64_in _ (by omega)
      have hw2 : IntKind.i64.wrap (e3 * (e3 + 1)) = P := by rw [← hPd]; exact IntWalk.i64_in _ (by rw [hPd]; omega)
      rw [← hPd] at he1 hq3
      obtain ⟨S, hSd⟩ : ∃ S : Int, S = (sumF L3 y y : Nat) := ⟨_, rfl⟩
      obtain ⟨s, hsd⟩ : ∃ s : Int, s = (cnt (sumF L3 y y) : Nat) := ⟨_, rfl⟩
      obtain ⟨X, hXd⟩ : ∃ X, X = leastF L3 e3 := ⟨_, rfl⟩
      obtain ⟨Z, hZd⟩ : ∃ Z, Z = mostF L3 e3 := ⟨_, rfl⟩
      obtain ⟨F, hFd⟩ : ∃ F, F = szF (ordF L3) e3 e3 := ⟨_, rfl⟩
      obtain ⟨O, hOd⟩ : ∃ O, O = ordF L3 := ⟨_, rfl⟩
      rw [← hXd] at c1 c3 d1 d2
      rw [← hSd] at c3 c4
      rw [← hsd] at c4 hq1 hq2
      rw [← hZd] at d3 d4 hq1 hq3
      rw [← hFd] at c6 hq2
      rw [← hOd] at c5 c6
      rw [hds] at d1 d2
      have hq3' : Z ≤ P / 2 := by omega
      have hz1 : ¬ (P / 2 < Z) := by omega
      have hq0 : IntKind.i64.wrap (P / 2) = P / 2 := IntWalk.i64_in _ (by omega)
      clear hy hyl hcy hgr hyS hSd hsd hXd hZd hFd hOd hPd hds hq3
      go_wp2_with (first | (go_at_call 21; refine (d1 _ hE).mono ?_; rintro e w' ⟨rfl, hE'⟩; replace hE := hE.trans hE'; clear hE') | (go_at_call 22; refine (d2 _ hE).mono ?_; rintro e w' ⟨rfl, hE'⟩; replace hE := hE.trans hE'; clear hE') | (go_at_call 23; refine (d3 _ hE).mono ?_; rintro e w' ⟨rfl, hE'⟩; replace hE := hE.trans hE'; clear hE') | (go_at_call 24; refine (d4 _ hE).mono ?_; rintro e w' ⟨rfl, hE'⟩; replace hE := hE.trans hE'; clear hE'))
      have hbU := fun U => hbd _ (lat_ext wd U)
      (refine wp_region_lat (wd) (by kernel_rfl) (by kernel_rfl) hE ?_); (repeat (go_big_quiet_step (first | (go_at_call 16; with_reducible exact Calls.lat (c4 _ (lat_ext _ _))) | (go_at_call 17; with_reducible exact Calls.lat (c3 _ (lat_ext _ _)))))); (refine wpQuiet_nil ?_); (intro W hE'); (replace hE := lat_of hE'); (clear hE')
      clear hbU
      go_wp2_with (first | (go_at_call 16; refine (c1 _ hE).mono ?_; rintro e w' ⟨rfl, hE'⟩; replace hE := hE.trans hE'; clear hE') | (go_at_call 19; refine (c5 _ hE).mono ?_; rintro e w' ⟨rfl, hE'⟩; replace hE := hE.trans hE'; clear hE') | (go_at_call 18; refine (c6 _).mono ?_; rintro e w' ⟨rfl, hE'⟩; replace hE := hE.trans hE'; clear hE'))
      have HY5 := Lib.hid (HY3.out.ext hE)
      have HE5 := Lib.hid ((HEq.out).trans (HE4.out.trans hE))
      clear hE hbd hgd Hwd HE4 HY3 c1 c3 c4 c5 c6 d1 d2 d3 d4
      refine (DrawSizeFormula_any _ _ _ HY5.out).mono ?_
      rintro e wS ⟨o, sn, sm, rfl, hES⟩
      go_wp2_with fail
      refine (DrawDivisorsOf_any _ _ _ (HY5.out.ext hES)).mono ?_
      rintro e wT ⟨dd, rfl, hET⟩
      have HE6 := Lib.hid (HE5.out.trans (hES.trans hET))
      have hE := Ext.refl wT
      clear hES hET HY5 HE5
      go_wp2_with (first | (go_at_call 18; refine (SizeFormula_any o sn sm _).mono ?_; rintro e w' ⟨rfl, hE'⟩; replace hE := hE.trans hE'; clear hE') | (go_at_call 27; refine (sSizeFormula_any o sn sm _).mono ?_; rintro e w' ⟨rfl, hE'⟩; replace hE := hE.trans hE'; clear hE') | (go_at_call 29; refine (DivisorsOf_any dd _).mono ?_; rintro e w' ⟨v1, rfl, hO1, hE1⟩; replace hE := hE.trans hE1) | (go_at_call 30; refine (sDivisorsOf_any dd _).mono ?_; rintro e w' ⟨v2, rfl, hO2, hE2⟩; replace hE := hE.trans hE2; have hI1 := (hO1.ext hE2).ints) | (go_at_call 28; refine (sameInts_any v1 v2 _ _ _ hI1 hO2.ints).mono ?_; rintro e w' ⟨rfl, hE'⟩; replace hE := hE.trans hE'; clear hE'))
      go_ret
      exact ⟨by simp, HE6.out.trans hE⟩
  · obtain ⟨x, y, hx, hy, hxl, hyl, hcx, hcy, hsz⟩ := ls_fact his
    have hgr := (lsB_parts his).1
    have hxS := isSetB_of hgr hxl
    have hyS := isSetB_of hgr hyl
    have hK : (cnt (sumF L x y) : Int) = lzF L n m := by unfold lzF; rw [if_pos his, hx, hy]; rfl
    have c1 := fun W hW => sCountSet_any _ L (lsX L n m) W (hg W hW)
    have c2 := fun W hW => sCountSet_any _ L (lsY L n m) W (hg W hW)
    have c3 := fun W hW => sSumOfSets_any _ L (lsX L n m) (lsY L n m) W (hg W hW)
    have c4 := fun W hW => sCountSet_any _ L (sumF L x y : Nat) W (hg W hW)
    have c5 := fun W hW => sOrderOf_any _ L W (hg W hW)
    have c6 := fun W => SizeFormula_any (ordF L) n m W
    rw [show csF L (lsX L n m) = n by rw [hx, csF_yes hxS, hcx]] at c1
    rw [show csF L (lsY L n m) = m by rw [hy, csF_yes hyS, hcy]] at c2
    rw [show ssF L (lsX L n m) (lsY L n m) = (sumF L x y : Nat) by rw [hx, hy, ssF_yes (by rw [hxS, hyS]; rfl)]] at c3
    rw [show csF L (sumF L x y : Nat) = lzF L n m by rw [csF_yes (isSetB_of hgr (sumF_lt (isGrp_ords hgr) x y)), hK]] at c4
    rw [show szF (ordF L) n m = lzF L n m by rw [ordF_t hgr, ← hsz, hK]] at c6
    obtain ⟨K, hKd⟩ : ∃ K, K = lzF L n m := ⟨_, rfl⟩
    obtain ⟨S, hSd⟩ : ∃ S : Int, S = (sumF L x y : Nat) := ⟨_, rfl⟩
    obtain ⟨X, hXd⟩ : ∃ X, X = lsX L n m := ⟨_, rfl⟩
    obtain ⟨Y, hYd⟩ : ∃ Y, Y = lsY L n m := ⟨_, rfl⟩
    obtain ⟨O, hOd⟩ : ∃ O, O = ordF L := ⟨_, rfl⟩
    have d1 := fun W hW => LeastSumset_any _ L n m W (hg W hW)
    have d2 := fun W hW => sLeastSumset_any _ L n m W (hg W hW)
    have d3 := fun W hW => LeastSize_any _ L n m W (hg W hW)
    have d4 := fun W hW => sLeastSize_any _ L n m W (hg W hW)
    rw [← hXd] at c1 c3 d1 d2
    rw [← hYd] at c2 c3 d1 d2
    rw [← hSd] at c3 c4
    rw [← hKd] at c4 c6 d3 d4
    rw [← hOd] at c5 c6
    rw [his] at d1 d2
    clear hx hy hxl hyl hcx hcy hsz hgr hxS hyS hK hKd hSd hXd hYd hOd his
    go_wp2_with (first | (go_at_call 12; refine (d1 _ hE).mono ?_; rintro e w' ⟨rfl, hE'⟩; replace hE := hE.trans hE'; clear hE') | (go_at_call 13; refine (d2 _ hE).mono ?_; rintro e w' ⟨rfl, hE'⟩; replace hE := hE.trans hE'; clear hE') | (go_at_call 14; refine (d3 _ hE).mono ?_; rintro e w' ⟨rfl, hE'⟩; replace hE := hE.trans hE'; clear hE') | (go_at_call 15; refine (d4 _ hE).mono ?_; rintro e w' ⟨rfl, hE'⟩; replace hE := hE.trans hE'; clear hE'))
    have hbU := fun U => hbb _ (lat_ext wb U)
    (refine wp_region_lat (wb) (by kernel_rfl) (by kernel_rfl) hE ?_); (repeat (go_big_quiet_step (first | (go_at_call 16; first | (with_reducible exact Calls.lat (c1 _ (lat_ext _ _))) | (with_reducible exact Calls.lat (c2 _ (lat_ext _ _))) | (with_reducible exact Calls.lat (c4 _ (lat_ext _ _)))) | (go_at_call 17; exact Calls.lat (c3 _ (lat_ext _ _))) | (go_at_call 19; exact Calls.lat (c5 _ (lat_ext _ _))) | (go_at_call 18; exact Calls.lat (c6 _))))); (refine wpQuiet_nil ?_); (intro W hE'); (replace hE := lat_of hE'); (clear hE')
    have hMark1 := hE
    rename World => wq
    have HEq := Lib.hid (HE.out.trans hE)
    have HYq := Lib.hid (HY.out.ext hE)
    clear hE HE HY hbb hg Hwb hMark1 hbU c1 c2 c3 c4 c5 c6 d1 d2 d3 d4
    go_wp2_with fail
    refine (DrawLeastDouble_any _ _ _ (HYq.out)).mono ?_
    rintro e w3 ⟨ao3, L3, c3, e3, rfl, hO3, he3, hE3⟩
    have hE4 := (Ext.refl w3).alloc (.cells #[.slice ao3 L3.length c3] 26)
    have hbd := box_cell w3 (.slice ao3 L3.length c3) 26
    have hgd := fun W hW => (hO3.ints.ext hE4).ext (w' := W) hW
    have hB3 := hE4.trans (Ext.refl _)
    have HY3 := Lib.hid ((HYq.out).ext (hE3.trans hE4))
    obtain ⟨wd, hwd⟩ : ∃ x, x = w3.alloc (.cells #[.slice ao3 L3.length c3] 26) := ⟨_, rfl⟩
    rw [← hwd] at hE4 hbd hgd HY3
    have Hwd := Lib.hid hwd
    have HE4 := Lib.hid (hE3.trans hE4)
    have hE := Ext.refl wd
    clear hwd hB3 hO3 hE4
    go_wp2_with fail
    rw [← Hwd.out]
    cases hds : dblB L3 e3
    · go_wp2_with (first | (go_at_call 21; refine (LeastDouble_any _ _ _ _ (hgd _ hE)).mono ?_; rintro e w' ⟨rfl, hE'⟩; replace hE := hE.trans hE'; clear hE') | (go_at_call 22; refine (sLeastDouble_any _ _ _ _ (hgd _ hE)).mono ?_; rintro e w' ⟨rfl, hE'⟩; replace hE := hE.trans hE'; clear hE') | (go_at_call 23; refine (MostDouble_any _ _ _ _ (hgd _ hE)).mono ?_; rintro e w' ⟨rfl, hE'⟩; replace hE := hE.trans hE'; clear hE') | (go_at_call 24; refine (sMostDouble_any _ _ _ _ (hgd _ hE)).mono ?_; rintro e w' ⟨rfl, hE'⟩; replace hE := hE.trans hE'; clear hE'))
      have HY5 := Lib.hid (HY3.out.ext hE)
      have HE5 := Lib.hid ((HEq.out).trans (HE4.out.trans hE))
      clear hE hbd hgd Hwd HE4 HY3 hds
      refine (DrawSizeFormula_any _ _ _ HY5.out).mono ?_
      rintro e wS ⟨o, sn, sm, rfl, hES⟩
      go_wp2_with fail
      refine (DrawDivisorsOf_any _ _ _ (HY5.out.ext hES)).mono ?_
      rintro e wT ⟨dd, rfl, hET⟩
      have HE6 := Lib.hid (HE5.out.trans (hES.trans hET))
      have hE := Ext.refl wT
      clear hES hET HY5 HE5
      go_wp2_with (first | (go_at_call 18; refine (SizeFormula_any o sn sm _).mono ?_; rintro e w' ⟨rfl, hE'⟩; replace hE := hE.trans hE'; clear hE') | (go_at_call 27; refine (sSizeFormula_any o sn sm _).mono ?_; rintro e w' ⟨rfl, hE'⟩; replace hE := hE.trans hE'; clear hE') | (go_at_call 29; refine (DivisorsOf_any dd _).mono ?_; rintro e w' ⟨v1, rfl, hO1, hE1⟩; replace hE := hE.trans hE1) | (go_at_call 30; refine (sDivisorsOf_any dd _).mono ?_; rintro e w' ⟨v2, rfl, hO2, hE2⟩; replace hE := hE.trans hE2; have hI1 := (hO1.ext hE2).ints) | (go_at_call 28; refine (sameInts_any v1 v2 _ _ _ hI1 hO2.ints).mono ?_; rintro e w' ⟨rfl, hE'⟩; replace hE := hE.trans hE'; clear hE'))
      go_ret
      exact ⟨by simp, HE6.out.trans hE⟩
    · obtain ⟨y, hy, hyl, hcy, hq1, hq2, hq3⟩ := dbl_fact hds
      have hgr : isGrp L3 = true := by unfold dblB at hds; simp only [Bool.and_eq_true] at hds; exact hds.1.1
      have hyS := isSetB_of hgr hyl
      have c1 := fun W hW => sCountSet_any _ L3 (leastF L3 e3) W (hgd W hW)
      have c3 := fun W hW => sSumOfSets_any _ L3 (leastF L3 e3) (leastF L3 e3) W (hgd W hW)
      have c4 := fun W hW => sCountSet_any _ L3 (sumF L3 y y : Nat) W (hgd W hW)
      have c5 := fun W hW => sOrderOf_any _ L3 W (hgd W hW)
      have c6 := fun W => SizeFormula_any (ordF L3) e3 e3 W
      rw [show csF L3 (leastF L3 e3) = e3 by rw [hy, csF_yes hyS, hcy]] at c1
      rw [show ssF L3 (leastF L3 e3) (leastF L3 e3) = (sumF L3 y y : Nat) by rw [hy, ssF_yes (by rw [hyS]; rfl)]] at c3
      rw [csF_yes (isSetB_of hgr (sumF_lt (isGrp_ords hgr) y y))] at c4
      rw [← ordF_t hgr] at hq2
      have d1 := fun W hW => LeastDouble_any _ L3 e3 W (hgd W hW)
      have d2 := fun W hW => sLeastDouble_any _ L3 e3 W (hgd W hW)
      have d3 := fun W hW => MostDouble_any _ L3 e3 W (hgd W hW)
      have d4 := fun W hW => sMostDouble_any _ L3 e3 W (hgd W hW)
      have he1 : e3 * (e3 + 1) ≤ 56 ∧ 0 ≤ e3 * (e3 + 1) := by
        have h8 : e3 = 0 ∨ e3 = 1 ∨ e3 = 2 ∨ e3 = 3 ∨ e3 = 4 ∨ e3 = 5 ∨ e3 = 6 ∨ e3 = 7 := by omega
        rcases h8 with rfl | rfl | rfl | rfl | rfl | rfl | rfl | rfl <;> decide
      obtain ⟨P, hPd⟩ : ∃ P, P = e3 * (e3 + 1) := ⟨_, rfl⟩
      have hw1 : IntKind.i64.wrap (e3 + 1) = e3 + 1 := IntWalk.i64_in _ (by omega)
      have hw2 : IntKind.i64.wrap (e3 * (e3 + 1)) = P := by rw [← hPd]; exact IntWalk.i64_in _ (by rw [hPd]; omega)
      rw [← hPd] at he1 hq3
      obtain ⟨S, hSd⟩ : ∃ S : Int, S = (sumF L3 y y : Nat) := ⟨_, rfl⟩
      obtain ⟨s, hsd⟩ : ∃ s : Int, s = (cnt (sumF L3 y y) : Nat) := ⟨_, rfl⟩
      obtain ⟨X, hXd⟩ : ∃ X, X = leastF L3 e3 := ⟨_, rfl⟩
      obtain ⟨Z, hZd⟩ : ∃ Z, Z = mostF L3 e3 := ⟨_, rfl⟩
      obtain ⟨F, hFd⟩ : ∃ F, F = szF (ordF L3) e3 e3 := ⟨_, rfl⟩
      obtain ⟨O, hOd⟩ : ∃ O, O = ordF L3 := ⟨_, rfl⟩
      rw [← hXd] at c1 c3 d1 d2
      rw [← hSd] at c3 c4
      rw [← hsd] at c4 hq1 hq2
      rw [← hZd] at d3 d4 hq1 hq3
      rw [← hFd] at c6 hq2
      rw [← hOd] at c5 c6
      rw [hds] at d1 d2
      have hq3' : Z ≤ P / 2 := by omega
      have hz1 : ¬ (P / 2 < Z) := by omega
      have hq0 : IntKind.i64.wrap (P / 2) = P / 2 := IntWalk.i64_in _ (by omega)
      clear hy hyl hcy hgr hyS hSd hsd hXd hZd hFd hOd hPd hds hq3
      go_wp2_with (first | (go_at_call 21; refine (d1 _ hE).mono ?_; rintro e w' ⟨rfl, hE'⟩; replace hE := hE.trans hE'; clear hE') | (go_at_call 22; refine (d2 _ hE).mono ?_; rintro e w' ⟨rfl, hE'⟩; replace hE := hE.trans hE'; clear hE') | (go_at_call 23; refine (d3 _ hE).mono ?_; rintro e w' ⟨rfl, hE'⟩; replace hE := hE.trans hE'; clear hE') | (go_at_call 24; refine (d4 _ hE).mono ?_; rintro e w' ⟨rfl, hE'⟩; replace hE := hE.trans hE'; clear hE'))
      have hbU := fun U => hbd _ (lat_ext wd U)
      (refine wp_region_lat (wd) (by kernel_rfl) (by kernel_rfl) hE ?_); (repeat (go_big_quiet_step (first | (go_at_call 16; with_reducible exact Calls.lat (c4 _ (lat_ext _ _))) | (go_at_call 17; with_reducible exact Calls.lat (c3 _ (lat_ext _ _)))))); (refine wpQuiet_nil ?_); (intro W hE'); (replace hE := lat_of hE'); (clear hE')
      clear hbU
      go_wp2_with (first | (go_at_call 16; refine (c1 _ hE).mono ?_; rintro e w' ⟨rfl, hE'⟩; replace hE := hE.trans hE'; clear hE') | (go_at_call 19; refine (c5 _ hE).mono ?_; rintro e w' ⟨rfl, hE'⟩; replace hE := hE.trans hE'; clear hE') | (go_at_call 18; refine (c6 _).mono ?_; rintro e w' ⟨rfl, hE'⟩; replace hE := hE.trans hE'; clear hE'))
      have HY5 := Lib.hid (HY3.out.ext hE)
      have HE5 := Lib.hid ((HEq.out).trans (HE4.out.trans hE))
      clear hE hbd hgd Hwd HE4 HY3 c1 c3 c4 c5 c6 d1 d2 d3 d4
      refine (DrawSizeFormula_any _ _ _ HY5.out).mono ?_
      rintro e wS ⟨o, sn, sm, rfl, hES⟩
      go_wp2_with fail
      refine (DrawDivisorsOf_any _ _ _ (HY5.out.ext hES)).mono ?_
      rintro e wT ⟨dd, rfl, hET⟩
      have HE6 := Lib.hid (HE5.out.trans (hES.trans hET))
      have hE := Ext.refl wT
      clear hES hET HY5 HE5
      go_wp2_with (first | (go_at_call 18; refine (SizeFormula_any o sn sm _).mono ?_; rintro e w' ⟨rfl, hE'⟩; replace hE := hE.trans hE'; clear hE') | (go_at_call 27; refine (sSizeFormula_any o sn sm _).mono ?_; rintro e w' ⟨rfl, hE'⟩; replace hE := hE.trans hE'; clear hE') | (go_at_call 29; refine (DivisorsOf_any dd _).mono ?_; rintro e w' ⟨v1, rfl, hO1, hE1⟩; replace hE := hE.trans hE1) | (go_at_call 30; refine (sDivisorsOf_any dd _).mono ?_; rintro e w' ⟨v2, rfl, hO2, hE2⟩; replace hE := hE.trans hE2; have hI1 := (hO1.ext hE2).ints) | (go_at_call 28; refine (sameInts_any v1 v2 _ _ _ hI1 hO2.ints).mono ?_; rintro e w' ⟨rfl, hE'⟩; replace hE := hE.trans hE'; clear hE'))
      go_ret
      exact ⟨by simp, HE6.out.trans hE⟩
end Go.Zz
