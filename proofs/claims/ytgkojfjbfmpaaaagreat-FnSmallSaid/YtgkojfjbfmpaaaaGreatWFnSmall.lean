/- Sets of small doubling fill more than two thirds of a coset, and structures and cases are told: the walk through the law. -/
import Derived.Test.YtgkojfjbfmpaaaaGreatGr11
import Derived.Test.YtgkojfjbfmpaaaaGreatGr18
import Derived.Deep.DeepCutAuto
namespace Go.Zz
open Go.RowKit Go.Proofs
set_option maxHeartbeats 40000000
set_option maxRecDepth 20000

/-- what holds behind each part of the law -/
def LawS (w : World) (v : Value) (l : List Int) (wx : World) : Prop := Ext w wx ∧ Byts wx v l
theorem FnSmall_walk {v : Value} {l : List Int} {w : World} (h : Byts w v l) :
    Calls Tryz.prog 3 #[v] w fun e w' => e = .returned (.bool true) ∧ Ext w w' := by
  go_enter Tryz.func3, Tryz.ntmps3
  go_wp2_with fail
  refine (big_any _ _ _ h).mono ?_
  rintro e w0 ⟨b, rfl, hE0⟩
  cases b
  rotate_left
  · go_wp2_with fail
    go_ret
    exact ⟨rfl, hE0⟩
  have H0 : LawS w v l w0 := ⟨hE0, h.ext hE0⟩
  clear hE0 h
  go_wp2_with fail
  refine (DrawSmallCoset_any _ _ _ H0.2).mono ?_
  rintro e w1 ⟨ao, L, c, a, rfl, hO, hE1⟩
  have hE2 := (Ext.refl w1).alloc (.cells #[.slice ao L.length c] 26)
  have hbb := box_cell w1 (.slice ao L.length c) 26
  have hg := fun W hW => (hO.ints.ext hE2).ext (w' := W) hW
  have HP := Lib.hid (show LawS w v l (w1.alloc (.cells #[.slice ao L.length c] 26)) from ⟨H0.1.trans (hE1.trans hE2), H0.2.ext (hE1.trans hE2)⟩)
  obtain ⟨wb, hwb⟩ : ∃ x, x = w1.alloc (.cells #[.slice ao L.length c] 26) := ⟨_, rfl⟩
  rw [← hwb] at hbb hg HP
  have Hwb := Lib.hid hwb
  have hE := Ext.refl wb
  have hbU := fun U => hbb _ (lat_ext wb U)
  clear hwb hE2 hO hE1
  have cA := fun W hW => SmallCoset_any _ L a W (hg W hW)
  have cS := fun W hW => sSmallCoset_any _ L a W (hg W hW)
  have cI := fun W hW => IsSmallDoubling_any _ L a W (hg W hW)
  obtain ⟨T, hT⟩ : ∃ x, x = smallF L a := ⟨_, rfl⟩
  obtain ⟨D0, hD0⟩ : ∃ x, x = scD L a := ⟨_, rfl⟩
  obtain ⟨S0, hS0⟩ : ∃ x, x = scS L a := ⟨_, rfl⟩
  rw [← hT, ← hD0, ← hS0] at cA cS
  rw [← hT] at cI
  have HT := Lib.hid hT
  have Hall := Lib.hid (fun q : T = true => small_all (hT.symm.trans q))
  rw [← hD0, ← hS0] at Hall
  clear hT hD0 hS0
  go_wp2_with fail
  rw [← Hwb.out]
  refine (cA _ hE).mono ?_
  rintro e w' ⟨rfl, hE'⟩
  replace hE := hE.trans hE'
  clear hE'
  go_upto_region 8 with (first | (go_at_call 7; (first | (with_reducible refine Calls.mono (cS _ hE) ?_)); rintro e w' ⟨rfl, hE'⟩; replace hE := hE.trans hE'; clear hE') | (go_at_call 8; (first | (with_reducible refine Calls.mono (cI _ hE) ?_)); rintro e w' ⟨rfl, hE'⟩; replace hE := hE.trans hE'; clear hE'))
  go_cut [116] (fun s wx => s = .bool false ∧ LawS w v l wx)
  case first =>
    as_aux_lemma =>
      cases T
      · (refine wp_region_lat (wb) (by kernel_rfl) (by kernel_rfl) hE ?_); (repeat (go_big_quiet_step (first | (fail "no call")))); (refine wpQuiet_nil ?_); (intro W hE'); (replace hE := lat_of hE'); (clear hE')
        go_wp2_with fail
        go_meet
        exact ⟨rfl, HP.out.1.trans hE, HP.out.2.ext hE⟩
      · obtain ⟨f1, f2, f3, f4, f5, f6, f7, f8⟩ := Hall.out rfl
        have d1 := fun W hW => IsSubgroup_any _ L D0 W (hg W hW)
        have d2 := fun W hW => IsCoset_any _ L S0 W (hg W hW)
        have d3 := fun W hW => sCountSet_any _ L S0 W (hg W hW)
        have d4 := fun W hW => sCountSet_any _ L D0 W (hg W hW)
        have d5 := fun W hW => sCountSet_any _ L a W (hg W hW)
        have d6 := fun W hW => sSumOfSets_any _ L a a W (hg W hW)
        have d7 := fun W hW => sCountSet_any _ L (ssF L a a) W (hg W hW)
        rw [f1] at d1
        rw [f2] at d2
        rw [f4] at d3
        rw [f6] at d7
        obtain ⟨kd, hkd⟩ : ∃ x, x = csF L D0 := ⟨_, rfl⟩
        obtain ⟨ka, hka⟩ : ∃ x, x = csF L a := ⟨_, rfl⟩
        obtain ⟨U0, hU0⟩ : ∃ x, x = ssF L a a := ⟨_, rfl⟩
        rw [← hkd] at d3 d4 d7 f5 f8
        rw [← hka] at d5 f5 f7
        rw [← hU0] at d6 d7
        have m1 : IntKind.i64.wrap (3 * ka) = 3 * ka := IntWalk.i64_in _ (by omega)
        have m2 : IntKind.i64.wrap (2 * kd) = 2 * kd := IntWalk.i64_in _ (by omega)
        have m3 : decide (3 * ka ≤ 2 * kd) = false := decide_eq_false (by omega)
        clear hkd hka hU0 f1 f2 f4 f6 f7 f8 Hall HT cA cS cI
        (refine wp_region_lat (wb) (by kernel_rfl) (by kernel_rfl) hE ?_); (repeat (go_big_quiet_step (first | (go_at_call 9; first | (with_reducible exact Calls.lat (d1 _ (lat_ext _ _)))) | (go_at_call 10; first | (with_reducible exact Calls.lat (d2 _ (lat_ext _ _)))) | (go_at_call 11; first | (with_reducible exact Calls.lat (d3 _ (lat_ext _ _))) | (with_reducible exact Calls.lat (d4 _ (lat_ext _ _))) | (with_reducible exact Calls.lat (d5 _ (lat_ext _ _))) | (with_reducible exact Calls.lat (d7 _ (lat_ext _ _)))) | (go_at_call 12; first | (with_reducible exact Calls.lat (d6 _ (lat_ext _ _))))))); (refine wpQuiet_nil ?_); (intro W hE'); (replace hE := lat_of hE'); (clear hE')
        go_wp2_with fail
        go_meet
        exact ⟨rfl, HP.out.1.trans hE, HP.out.2.ext hE⟩
  case rest =>
  clear cA cS cI hg hbb hbU HP Hwb hE H0 HT Hall
  obtain ⟨rfl, H1⟩ := hcut
  go_wp2_with fail

  refine (DrawStructureOf_any _ _ _ H1.2).mono ?_
  rintro e w1 ⟨ao, L, c, a, rfl, hO, hE1⟩
  have hE2 := (Ext.refl w1).alloc (.cells #[.slice ao L.length c] 26)
  have hbb := box_cell w1 (.slice ao L.length c) 26
  have hg := fun W hW => (hO.ints.ext hE2).ext (w' := W) hW
  have HP := Lib.hid (show LawS w v l (w1.alloc (.cells #[.slice ao L.length c] 26)) from ⟨H1.1.trans (hE1.trans hE2), H1.2.ext (hE1.trans hE2)⟩)
  obtain ⟨wb, hwb⟩ : ∃ x, x = w1.alloc (.cells #[.slice ao L.length c] 26) := ⟨_, rfl⟩
  rw [← hwb] at hbb hg HP
  have Hwb := Lib.hid hwb
  have hE := Ext.refl wb
  have hbU := fun U => hbb _ (lat_ext wb U)
  clear hwb hE2 hO hE1
  have cA := fun W hW => StructureOf_any _ L a W (hg W hW)
  have cS := fun W hW => sStructureOf_any _ L a W (hg W hW)
  have cI := fun W hW => sIsSet_any _ L a W (hg W hW)
  have cC := fun W hW => IsCoset_any _ L a W (hg W hW)
  have cP := fun W hW => IsProgression_any _ L a W (hg W hW)
  have Hall := Lib.hid (st_all L a)
  obtain ⟨st, hst⟩ : ∃ x, x = stF L a := ⟨_, rfl⟩
  obtain ⟨SB, hSB⟩ : ∃ x, x = isSetB L a := ⟨_, rfl⟩
  obtain ⟨CB, hCB⟩ : ∃ x, x = cstB L a := ⟨_, rfl⟩
  obtain ⟨PB, hPB⟩ : ∃ x, x = proB L a := ⟨_, rfl⟩
  rw [← hst] at cA cS Hall
  rw [← hSB] at cI Hall
  rw [← hCB] at cC Hall
  rw [← hPB] at cP Hall
  clear hst hSB hCB hPB
  go_wp2_with fail
  rw [← Hwb.out]
  refine (cA _ hE).mono ?_
  rintro e w' ⟨rfl, hE'⟩
  replace hE := hE.trans hE'
  clear hE'
  go_upto_region 12 with (go_at_call 15; (first | (with_reducible refine Calls.mono (cS _ hE) ?_)); rintro e w' ⟨rfl, hE'⟩; replace hE := hE.trans hE'; clear hE')
  go_cut [157] (fun s wx => s = .bool false ∧ LawS w v l wx)

  case first =>
    as_aux_lemma =>
      have hH := Hall.out
      clear Hall cA
      rcases hH with ⟨rfl, rfl⟩ | ⟨rfl, hH⟩
      rotate_left
      rcases hH with rfl | rfl | ⟨rfl, rfl⟩ | rfl | ⟨rfl, rfl⟩ | rfl | rfl | rfl
      all_goals
        go_wp2_with (first | (go_at_call 15; (first | (with_reducible refine Calls.mono (cS _ hE) ?_)); rintro e w' ⟨rfl, hE'⟩; replace hE := hE.trans hE'; clear hE') | (go_at_call 16; (first | (with_reducible refine Calls.mono (cI _ hE) ?_)); rintro e w' ⟨rfl, hE'⟩; replace hE := hE.trans hE'; clear hE') | (go_at_call 10; (first | (with_reducible refine Calls.mono (cC _ hE) ?_)); rintro e w' ⟨rfl, hE'⟩; replace hE := hE.trans hE'; clear hE') | (go_at_call 17; (first | (with_reducible refine Calls.mono (cP _ hE) ?_)); rintro e w' ⟨rfl, hE'⟩; replace hE := hE.trans hE'; clear hE'))
        go_meet
        exact ⟨rfl, HP.out.1.trans hE, HP.out.2.ext hE⟩
  case rest =>
  clear cA cS cI cC cP hg hbb hbU HP Hwb hE H1 Hall
  obtain ⟨rfl, H2⟩ := hcut
  go_wp2_with fail

  refine (DrawKempermanCase_any _ _ _ H2.2).mono ?_
  rintro e w1 ⟨ao, L, c, a, x, rfl, hO, hE1⟩
  have hE2 := (Ext.refl w1).alloc (.cells #[.slice ao L.length c] 26)
  have hbb := box_cell w1 (.slice ao L.length c) 26
  have hg := fun W hW => (hO.ints.ext hE2).ext (w' := W) hW
  have HP := Lib.hid (show LawS w v l (w1.alloc (.cells #[.slice ao L.length c] 26)) from ⟨H2.1.trans (hE1.trans hE2), H2.2.ext (hE1.trans hE2)⟩)
  obtain ⟨wb, hwb⟩ : ∃ x, x = w1.alloc (.cells #[.slice ao L.length c] 26) := ⟨_, rfl⟩
  rw [← hwb] at hbb hg HP
  have Hwb := Lib.hid hwb
  have hE := Ext.refl wb
  have hbU := fun U => hbb _ (lat_ext wb U)
  clear hwb hE2 hO hE1
  have cA := fun W hW => KempermanCase_any _ L a x W (hg W hW)
  have cS := fun W hW => sKempermanCase_any _ L a x W (hg W hW)
  have cD := fun W hW => sSumDefect_any _ L a x W (hg W hW)
  have Hall := Lib.hid (kc_all L a x)
  obtain ⟨kc, hkc⟩ : ∃ q, q = kcF L a x := ⟨_, rfl⟩
  obtain ⟨sd, hsd⟩ : ∃ q, q = sdF L a x := ⟨_, rfl⟩
  rw [← hkc] at cA cS Hall
  rw [← hsd] at cD Hall
  clear hkc hsd
  go_wp2_with fail
  rw [← Hwb.out]
  refine (cA _ hE).mono ?_
  rintro e w' ⟨rfl, hE'⟩
  replace hE := hE.trans hE'
  clear hE'
  go_upto_region 16 with fail
  go_cut [184] (fun s wx => s = .bool false ∧ LawS w v l wx)
  case first =>
    as_aux_lemma =>
      have hH := Hall.out
      clear Hall cA
      rcases hH with ⟨rfl, hsd⟩ | rfl | rfl | rfl | rfl | rfl
      · have hsd2 : decide (sd ≤ 0) = false := decide_eq_false (by omega)
        go_wp2_with (first | (go_at_call 20; (first | (with_reducible refine Calls.mono (cS _ hE) ?_)); rintro e w' ⟨rfl, hE'⟩; replace hE := hE.trans hE'; clear hE') | (go_at_call 21; (first | (with_reducible refine Calls.mono (cD _ hE) ?_)); rintro e w' ⟨rfl, hE'⟩; replace hE := hE.trans hE'; clear hE'))
        go_meet
        exact ⟨rfl, HP.out.1.trans hE, HP.out.2.ext hE⟩
      all_goals
        go_wp2_with (first | (go_at_call 20; (first | (with_reducible refine Calls.mono (cS _ hE) ?_)); rintro e w' ⟨rfl, hE'⟩; replace hE := hE.trans hE'; clear hE') | (go_at_call 21; (first | (with_reducible refine Calls.mono (cD _ hE) ?_)); rintro e w' ⟨rfl, hE'⟩; replace hE := hE.trans hE'; clear hE'))
        go_meet
        exact ⟨rfl, HP.out.1.trans hE, HP.out.2.ext hE⟩
  case rest =>
  clear cA cS cD hg hbb hbU HP Hwb hE H2 Hall
  obtain ⟨rfl, H3⟩ := hcut
  go_wp2_with fail
  refine (DrawDoubleCover_any _ _ _ H3.2).mono ?_
  rintro e w1 ⟨ao, L, c, a, rfl, hO, hE1⟩
  have hE2 := (Ext.refl w1).alloc (.cells #[.slice ao L.length c] 26)
  have hbb := box_cell w1 (.slice ao L.length c) 26
  have hg := fun W hW => (hO.ints.ext hE2).ext (w' := W) hW
  have HP := Lib.hid (show LawS w v l (w1.alloc (.cells #[.slice ao L.length c] 26)) from ⟨H3.1.trans (hE1.trans hE2), H3.2.ext (hE1.trans hE2)⟩)
  obtain ⟨wb, hwb⟩ : ∃ x, x = w1.alloc (.cells #[.slice ao L.length c] 26) := ⟨_, rfl⟩
  rw [← hwb] at hbb hg HP
  have Hwb := Lib.hid hwb
  have hE := Ext.refl wb
  have hbU := fun U => hbb _ (lat_ext wb U)
  clear hwb hE2 hO hE1
  have cA := fun W hW => DoubleCover_any _ L a W (hg W hW)
  have cS := fun W hW => sDoubleCover_any _ L a W (hg W hW)
  have d1 := fun W hW => IsSubgroup_any _ L (dcF L a) W (hg W hW)
  have d2 := fun W hW => sCountSet_any _ L (dcF L a) W (hg W hW)
  have d3 := fun W hW => sAffineHull_any _ L a W (hg W hW)
  have d4 := fun W hW => sCountSet_any _ L (hullF L a) W (hg W hW)
  have hall := fun q : isOneB L a = true => dc_all q
  obtain ⟨One, hOne⟩ : ∃ q, q = isOneB L a := ⟨_, rfl⟩
  obtain ⟨Dc, hDc⟩ : ∃ q, q = dcF L a := ⟨_, rfl⟩
  obtain ⟨Hu, hHu⟩ : ∃ q, q = hullF L a := ⟨_, rfl⟩
  obtain ⟨SB, hSB⟩ : ∃ q, q = subB L (dcF L a) := ⟨_, rfl⟩
  obtain ⟨k1, hk1⟩ : ∃ q, q = csF L (dcF L a) := ⟨_, rfl⟩
  obtain ⟨k2, hk2⟩ : ∃ q, q = csF L (hullF L a) := ⟨_, rfl⟩
  rw [← hSB, ← hk1, ← hk2, ← hOne] at hall
  rw [← hSB] at d1
  rw [← hk1] at d2
  rw [← hk2] at d4
  rw [← hOne, ← hDc] at cA cS
  rw [← hDc] at d1 d2
  rw [← hHu] at d3 d4
  have Hall := Lib.hid hall
  clear hSB hk1 hk2 hOne hDc hHu hall
  go_wp2_with fail
  rw [← Hwb.out]
  refine (cA _ hE).mono ?_
  rintro e w' ⟨rfl, hE'⟩
  replace hE := hE.trans hE'
  clear hE'
  go_wp2_with (go_at_call 24; (first | (with_reducible refine Calls.mono (cS _ hE) ?_)); rintro e w' ⟨rfl, hE'⟩; replace hE := hE.trans hE'; clear hE')
  cases One
  · as_aux_lemma =>
      (refine wp_region_lat (wb) (by kernel_rfl) (by kernel_rfl) hE ?_); (repeat (go_big_quiet_step (first | (fail "no call")))); (refine wpQuiet_nil ?_); (intro W hE'); (replace hE := lat_of hE'); (clear hE')
      go_wp2_with fail
      go_ret
      exact ⟨rfl, HP.out.1.trans hE⟩
  · obtain ⟨f1, f2⟩ := Hall.out rfl
    rw [f1] at d1
    rw [f2] at d2
    clear f1 f2 Hall
    as_aux_lemma =>
      (refine wp_region_lat (wb) (by kernel_rfl) (by kernel_rfl) hE ?_); (repeat (go_big_quiet_step (first | (go_at_call 9; first | (with_reducible exact Calls.lat (d1 _ (lat_ext _ _)))) | (go_at_call 11; first | (with_reducible exact Calls.lat (d2 _ (lat_ext _ _))) | (with_reducible exact Calls.lat (d4 _ (lat_ext _ _)))) | (go_at_call 25; first | (with_reducible exact Calls.lat (d3 _ (lat_ext _ _))))))); (refine wpQuiet_nil ?_); (intro W hE'); (replace hE := lat_of hE'); (clear hE')
      go_wp2_with fail
      go_ret
      exact ⟨rfl, HP.out.1.trans hE⟩
end Go.Zz
