/- Distances are those of a metric that shifts keep, cliques are cliques, boundaries of a set and of its rest agree: the walk through the law. -/
import Derived.Test.YtgjomoedgmofbaaCu
import Derived.Test.YtgjomoedgmofbaaDy
import Derived.Test.YtgjomoedgmofbaaC30
import Derived.Test.YtgjomoedgmofbaaC31
import Derived.Test.YtgjomoedgmofbaaC33
import Derived.Test.YtgjomoedgmofbaaC79
import Derived.Test.YtgjomoedgmofbaaC80
import Derived.Deep.DeepCutAuto
namespace Go.Zz
open Go.RowKit Go.Proofs
set_option maxHeartbeats 4000000
set_option maxRecDepth 20000

/-- what holds behind each part of the law -/
def LawP (w : World) (v : Value) (l : List Int) (wx : World) : Prop := Ext w wx ∧ Byts wx v l
theorem FnCayley_walk {v : Value} {l : List Int} {w : World} (h : Byts w v l) :
    Calls Try.prog 7 #[v] w fun e w' => e = .returned (.bool true) ∧ Ext w w' := by
  go_enter Try.func7, Try.ntmps7
  go_wp2_with fail
  refine (big_any _ _ _ h).mono ?_
  rintro e w0 ⟨b, rfl, hE0⟩
  cases b
  rotate_left
  · go_wp2_with fail
    go_ret
    exact ⟨rfl, hE0⟩
  have H0 : LawP w v l w0 := ⟨hE0, h.ext hE0⟩
  clear hE0 h
  go_wp2_with fail
  refine (DrawDistanceInCayley_any _ _ _ H0.2).mono ?_
  rintro e w1 ⟨ao, L, c, a, x, y, rfl, hO, hE1⟩
  have hE2 := (Ext.refl w1).alloc (.cells #[.slice ao L.length c] 26)
  have hbb := box_cell w1 (.slice ao L.length c) 26
  have hg := fun W hW => (hO.ints.ext hE2).ext (w' := W) hW
  have HP := Lib.hid (show LawP w v l (w1.alloc (.cells #[.slice ao L.length c] 26)) from ⟨H0.1.trans (hE1.trans hE2), H0.2.ext (hE1.trans hE2)⟩)
  obtain ⟨wb, hwb⟩ : ∃ x, x = w1.alloc (.cells #[.slice ao L.length c] 26) := ⟨_, rfl⟩
  rw [← hwb] at hbb hg HP
  have Hwb := Lib.hid hwb
  have hE := Ext.refl wb
  have hbU := fun U => hbb _ (lat_ext wb U)
  clear hwb hE2 hO hE1
  have cA := fun W hW => DistanceInCayley_any _ L a x y W (hg W hW)
  have cS := fun W hW => sDistanceInCayley_any _ L a x y W (hg W hW)
  have cB := fun W hW => DistanceInCayley_any _ L a y x W (hg W hW)
  rw [← dist_symm L a x y] at cB
  have hat := atF_bd HP.out.2 3
  have cZ : ∀ W, Ext wb W → Calls Try.prog 78 #[v, .int .i64 3] W fun e w' => e = .returned (.int .i64 (atF l 3)) ∧ Ext W w' := fun W hW => at_any v l 3 (by omega) W (HP.out.2.ext hW)
  have cO := fun W hW => sOrderOf_any _ L W (hg W hW)
  have hDb := distF_bd L a x y
  obtain ⟨D, hD⟩ : ∃ D, D = distF L a x y := ⟨_, rfl⟩
  have HD := Lib.hid hD
  rw [← hD] at cA cS cB hDb
  clear hD
  go_wp2_with fail
  rw [← Hwb.out]
  refine (cA _ hE).mono ?_
  rintro e w' ⟨rfl, hE'⟩
  replace hE := hE.trans hE'
  clear hE'
  go_upto_if 71 with (first | (go_at_call 76; (first | (with_reducible refine Calls.mono (cA _ hE) ?_) | (with_reducible refine Calls.mono (cB _ hE) ?_)); rintro e w' ⟨rfl, hE'⟩; replace hE := hE.trans hE'; clear hE') | (go_at_call 77; (with_reducible refine Calls.mono (cS _ hE) ?_); rintro e w' ⟨rfl, hE'⟩; replace hE := hE.trans hE'; clear hE'))
  go_cut [] (fun wx => LawP w v l wx)
  case first =>
    as_aux_lemma =>
      by_cases hd0 : 0 ≤ D
      · obtain ⟨a', x', y', rfl, rfl, rfl, hgr, hc, hx, hy, -⟩ := dist_nat (by rw [← HD.out]; exact hd0)
        have hob := ord_bd hgr
        have ho : ordF L = (ord L : Int) := ordF_t hgr
        rw [ho] at cO
        obtain ⟨z, hzd⟩ : ∃ z : Nat, z = (atF l 3).toNat % ord L := ⟨_, rfl⟩
        have hz : z < ord L := by rw [hzd]; exact Nat.mod_lt _ (by omega)
        have hat2 : (atF l 3).tmod (ord L : Int) = (z : Int) := by
          rw [Int.tmod_eq_emod_of_nonneg hat.1, hzd, Int.natCast_emod, Int.toNat_of_nonneg hat.1]
        have hat3 : atF l 3 % (ord L : Int) = (z : Int) := by rw [← Int.tmod_eq_emod_of_nonneg hat.1]; exact hat2
        have hon : ¬ (ord L : Int) = 0 := by omega
        have hon2 : ((ord L : Int) == 0) = false := by rw [beq_eq_false_iff_ne]; exact hon
        obtain ⟨At, hAt⟩ : ∃ A, A = atF l 3 := ⟨_, rfl⟩
        obtain ⟨Or, hOr⟩ : ∃ O : Int, O = (ord L : Int) := ⟨_, rfl⟩
        rw [← hAt] at cZ hat2 hat3 hat
        rw [← hOr] at cO hat2 hat3 hon hon2
        have cE := fun W hW => DistanceInCayley_any _ L a' y' z W (hg W hW)
        have cF := fun W hW => DistanceInCayley_any _ L a' x' z W (hg W hW)
        have cP := fun W hW => sAddElements_any _ L x' z W (hg W hW)
        have cQ := fun W hW => sAddElements_any _ L y' z W (hg W hW)
        have cG := fun W hW => DistanceInCayley_any _ L a' (addF L x' z : Nat) (addF L y' z : Nat) W (hg W hW)
        rw [aeF_yes (by rw [hasB_of hgr hx, hasB_of hgr hz]; rfl)] at cP
        rw [aeF_yes (by rw [hasB_of hgr hy, hasB_of hgr hz]; rfl)] at cQ
        rw [dist_shift (by rw [← HD.out]; exact hd0), ← HD.out] at cG
        have hEb := distF_bd L a' y' z
        have hFb := distF_bd L a' x' z
        have htri : 0 ≤ distF L a' y' z → 0 ≤ distF L a' x' z ∧ distF L a' x' z ≤ D + distF L a' y' z := fun k => by
          have := dist_tri (by rw [← HD.out]; exact hd0) k
          rw [← HD.out] at this; exact this
        obtain ⟨E, hEd⟩ : ∃ E, E = distF L a' y' z := ⟨_, rfl⟩
        obtain ⟨F, hFd⟩ : ∃ F, F = distF L a' x' z := ⟨_, rfl⟩
        obtain ⟨xz, hxz⟩ : ∃ x : Int, x = (addF L x' z : Nat) := ⟨_, rfl⟩
        obtain ⟨yz, hyz⟩ : ∃ x : Int, x = (addF L y' z : Nat) := ⟨_, rfl⟩
        rw [← hEd] at cE hEb htri
        rw [← hFd] at cF hFb htri
        rw [← hxz] at cP cG
        rw [← hyz] at cQ cG
        have hw : IntKind.i64.wrap (D + E) = D + E := IntWalk.i64_in _ (by omega)
        clear hzd hAt hOr hEd hFd hxz hyz hx hy hc hgr ho hz HD hob cA cB cS
        go_wp2_with fail
        (refine wp_region_lat (wb) (by kernel_rfl) (by kernel_rfl) hE ?_); (repeat (go_big_quiet_step (first | (go_at_call 78; with_reducible exact Calls.lat (cZ _ (lat_ext _ _))) | (go_at_call 19; with_reducible exact Calls.lat (cO _ (lat_ext _ _)))))); (refine wpQuiet_nil ?_); (intro W hE'); (replace hE := lat_of hE'); (clear hE')
        go_wp2_with (go_at_call 76; (first | (with_reducible refine Calls.mono (cE _ hE) ?_) | (with_reducible refine Calls.mono (cF _ hE) ?_)); rintro e w' ⟨rfl, hE'⟩; replace hE := hE.trans hE'; clear hE')
        by_cases hE0 : 0 ≤ E
        · obtain ⟨hF0, hF1⟩ := htri hE0
          have hF2 : ¬ F < 0 := by omega
          have hF3 : ¬ (D + E < F) := by omega
          clear htri
          (refine wp_region_lat (wb) (by kernel_rfl) (by kernel_rfl) hE ?_); (repeat (go_big_quiet_step (first | (go_at_call 79; first | (with_reducible exact Calls.lat (cP _ (lat_ext _ _))) | (with_reducible exact Calls.lat (cQ _ (lat_ext _ _)))) | (go_at_call 76; with_reducible exact Calls.lat (cG _ (lat_ext _ _)))))); (refine wpQuiet_nil ?_); (intro W hE'); (replace hE := lat_of hE'); (clear hE')
          go_wp2_with fail
          go_meet
          exact ⟨HP.out.1.trans hE, HP.out.2.ext hE⟩
        · clear htri
          (refine wp_region_lat (wb) (by kernel_rfl) (by kernel_rfl) hE ?_); (repeat (go_big_quiet_step (first | (go_at_call 79; first | (with_reducible exact Calls.lat (cP _ (lat_ext _ _))) | (with_reducible exact Calls.lat (cQ _ (lat_ext _ _)))) | (go_at_call 76; with_reducible exact Calls.lat (cG _ (lat_ext _ _)))))); (refine wpQuiet_nil ?_); (intro W hE'); (replace hE := lat_of hE'); (clear hE')
          go_wp2_with fail
          go_meet
          exact ⟨HP.out.1.trans hE, HP.out.2.ext hE⟩
      · go_wp2_with fail
        go_meet
        exact ⟨HP.out.1.trans hE, HP.out.2.ext hE⟩
  case rest =>
  clear cA cB cS cZ cO hg hbb hbU HP Hwb HD hE hDb hat H0
  have H1 := hcut
  clear hcut
  go_wp2_with fail
  refine (DrawLargestClique_any _ _ _ H1.2).mono ?_
  rintro e w1 ⟨ao, L, c, a, rfl, hO, hE1⟩
  have hE2 := (Ext.refl w1).alloc (.cells #[.slice ao L.length c] 26)
  have hbb := box_cell w1 (.slice ao L.length c) 26
  have hg := fun W hW => (hO.ints.ext hE2).ext (w' := W) hW
  have HP := Lib.hid (show LawP w v l (w1.alloc (.cells #[.slice ao L.length c] 26)) from ⟨H1.1.trans (hE1.trans hE2), H1.2.ext (hE1.trans hE2)⟩)
  obtain ⟨wb, hwb⟩ : ∃ x, x = w1.alloc (.cells #[.slice ao L.length c] 26) := ⟨_, rfl⟩
  rw [← hwb] at hbb hg HP
  have Hwb := Lib.hid hwb
  have hE := Ext.refl wb
  have hbU := fun U => hbb _ (lat_ext wb U)
  clear hwb hE2 hO hE1
  have cA := fun W hW => LargestClique_any _ L a W (hg W hW)
  have cS := fun W hW => sLargestClique_any _ L a W (hg W hW)
  have cD := fun W hW => sDifferenceOfSets_any _ L (lcV L a) (lcV L a) W (hg W hW)
  have cK := fun W hW => sCountSet_any _ L (lcV L a) W (hg W hW)
  have cN := fun W hW => sCountSet_any _ L a W (hg W hW)
  go_wp2_with fail
  rw [← Hwb.out]
  refine (cA _ hE).mono ?_
  rintro e w' ⟨rfl, hE'⟩
  replace hE := hE.trans hE'
  clear hE'
  go_upto_if 140 with (go_at_call 82; (with_reducible refine Calls.mono (cS _ hE) ?_); rintro e w' ⟨rfl, hE'⟩; replace hE := hE.trans hE'; clear hE')
  go_cut [13, 14, 15, 16] (fun _ _ _ _ wx => LawP w v l wx)
  case first =>
    as_aux_lemma =>
      cases hl : lcF L a
      · go_wp2_with fail
        go_meet
        exact ⟨HP.out.1.trans hE, HP.out.2.ext hE⟩
      · obtain ⟨k, n, rfl, hk, hgr, hkl, hnl, hk0, hcl, hcc⟩ := lc_fact hl
        have hkS := isSetB_of hgr hkl
        have hnS := isSetB_of hgr hnl
        have hn24 : n < 2 ^ 24 := Nat.lt_of_lt_of_le hnl (pow_ord hgr)
        have hS24 := sumF_bd hgr k (oppF L k)
        have hsub : sumF L k (oppF L k) &&& (n ||| 1) = sumF L k (oppF L k) := by
          refine Nat.eq_of_testBit_eq fun i => ?_
          rw [Nat.testBit_and]
          cases hb : (sumF L k (oppF L k)).testBit i
          · rfl
          · rw [andN_zero.1 hcl i hb]; rfl
        rw [hk] at cD cK
        rw [dsF_yes (by rw [hkS]; rfl)] at cD
        rw [csF_yes hkS] at cK
        rw [csF_yes hnS] at cN
        have q1 : ior (n : Int) 1 = ((n ||| 1 : Nat) : Int) := ior_nat (a := n) (b := 1) (by omega) (by omega)
        have hn1 : n ||| 1 < 2 ^ 24 := Nat.or_lt_two_pow hn24 (by omega)
        have q2 : iand ((sumF L k (oppF L k) : Nat) : Int) ((n ||| 1 : Nat) : Int) = ((sumF L k (oppF L k) : Nat) : Int) := by rw [iand_nat (by omega) (by omega), hsub]
        obtain ⟨S, hSd⟩ : ∃ S : Int, S = (sumF L k (oppF L k) : Nat) := ⟨_, rfl⟩
        obtain ⟨n1, hn1d⟩ : ∃ x : Int, x = (n ||| 1 : Nat) := ⟨_, rfl⟩
        obtain ⟨ck, hck⟩ : ∃ x : Int, x = (cnt k : Nat) := ⟨_, rfl⟩
        obtain ⟨cn, hcn⟩ : ∃ x : Int, x = (cnt n : Nat) := ⟨_, rfl⟩
        have hcb := cnt_le n
        have hle : ¬ (cn + 1 < ck) := by omega
        have hleB : decide (cn + 1 < ck) = false := decide_eq_false hle
        have hw : IntKind.i64.wrap (cn + 1) = cn + 1 := IntWalk.i64_in _ (by omega)
        have hk0I : (((k : Nat) : Int) == 0) = false := by rw [beq_eq_false_iff_ne]; omega
        obtain ⟨K, hKd⟩ : ∃ K : Int, K = (k : Nat) := ⟨_, rfl⟩
        rw [← hSd] at cD q2
        rw [← hn1d] at q1 q2
        rw [← hck] at cK
        rw [← hcn] at cN
        rw [hk, ← hKd]
        rw [← hKd] at cD cK hk0I
        clear hSd hn1d hck hcn hKd hk hgr hkl hnl hk0 hcl hcc hkS hnS hn24 hS24 hsub hn1 hcb hl cA cS
        go_wp2_with (go_at_call 83; (with_reducible refine Calls.mono (cD _ hE) ?_); rintro e w' ⟨rfl, hE'⟩; replace hE := hE.trans hE'; clear hE')
        (refine wp_region_lat (wb) (by kernel_rfl) (by kernel_rfl) hE ?_); (repeat (go_big_quiet_step (first | (go_at_call 16; first | (with_reducible exact Calls.lat (cK _ (lat_ext _ _))) | (with_reducible exact Calls.lat (cN _ (lat_ext _ _))))))); (refine wpQuiet_nil ?_); (intro W hE'); (replace hE := lat_of hE'); (clear hE')
        go_wp2_with fail
        go_meet
        exact ⟨HP.out.1.trans hE, HP.out.2.ext hE⟩
  case rest =>
  clear cA cD cK cN cS hg hbb hbU HP Hwb hE H1
  have H2 := hcut
  clear hcut
  go_wp2_with fail
  refine (DrawBoundaryOf_any _ _ _ H2.2).mono ?_
  rintro e w1 ⟨ao, L, c, a, x, rfl, hO, hE1⟩
  have hE2 := (Ext.refl w1).alloc (.cells #[.slice ao L.length c] 26)
  have hbb := box_cell w1 (.slice ao L.length c) 26
  have hg := fun W hW => (hO.ints.ext hE2).ext (w' := W) hW
  have HP := Lib.hid (show LawP w v l (w1.alloc (.cells #[.slice ao L.length c] 26)) from ⟨H2.1.trans (hE1.trans hE2), H2.2.ext (hE1.trans hE2)⟩)
  obtain ⟨wb, hwb⟩ : ∃ x, x = w1.alloc (.cells #[.slice ao L.length c] 26) := ⟨_, rfl⟩
  rw [← hwb] at hbb hg HP
  have Hwb := Lib.hid hwb
  have hE := Ext.refl wb
  have hbU := fun U => hbb _ (lat_ext wb U)
  clear hwb hE2 hO hE1
  have cA := fun W hW => BoundaryOf_any _ L a x W (hg W hW)
  have cS := fun W hW => sBoundaryOf_any _ L a x W (hg W hW)
  have cF := fun W hW => sFullSet_any _ L W (hg W hW)
  have cR := fun W hW => BoundaryOf_any _ L a (fuF L - x) W (hg W hW)
  go_wp2_with fail
  rw [← Hwb.out]
  refine (cA _ hE).mono ?_
  rintro e w' ⟨rfl, hE'⟩
  replace hE := hE.trans hE'
  clear hE'
  go_upto_region 24 with fail
  go_cut [21, 195] (fun _ s wx => s = .bool false ∧ LawP w v l wx)
  case first =>
    as_aux_lemma =>
      cases hh : (connB L a && isSetB L x)
      · have hb1 := bdF_no hh
        rw [hb1] at cA cS
        rw [hb1]
        clear hb1 hh cA cR
        (refine wp_region_lat (wb) (by kernel_rfl) (by kernel_rfl) hE ?_); (repeat (go_big_quiet_step (first | (go_at_call 86; with_reducible exact Calls.lat (cS _ (lat_ext _ _)))))); (refine wpQuiet_nil ?_); (intro W hE'); (replace hE := lat_of hE'); (clear hE')
        go_wp2_with fail
        go_meet
        exact ⟨rfl, HP.out.1.trans hE, HP.out.2.ext hE⟩
      · have hp := hh
        rw [Bool.and_eq_true] at hp
        obtain ⟨a, rfl, -, -, hgr⟩ := connB_nat hp.1
        obtain ⟨x, rfl, hxl, hx24, -⟩ := isSetB_nat hp.2
        have hfl := fullN_lt L
        have hp24 := pow_ord hgr
        have hpw : fullN L = 2 ^ ord L - 1 := rfl
        have hfu : fuF L = (fullN L : Int) := by unfold fuF; rw [hgr]; rfl
        have hr := bd_rest hp.1 hp.2
        have hcast : (fullN L : Int) - (x : Int) = ((fullN L - x : Nat) : Int) := by omega
        have hrS : isSetB L (fullN L - x : Nat) = true := isSetB_of hgr (by omega)
        rw [hfu] at cF cR
        rw [hcast] at cR
        rw [bdF_yes hh] at cS
        rw [bdF_yes (by rw [hp.1, hrS]; rfl), ← hr] at cR
        rw [bdF_yes hh]
        have hw : IntKind.i64.wrap ((fullN L : Int) - (x : Int)) = ((fullN L - x : Nat) : Int) := by rw [hcast]; exact IntWalk.i64_in _ (by omega)
        have hB0 : 0 ≤ ((bdN L a x : Nat) : Int) := by omega
        obtain ⟨B, hB⟩ : ∃ B : Int, B = (bdN L a x : Nat) := ⟨_, rfl⟩
        obtain ⟨R, hR⟩ : ∃ B : Int, B = ((fullN L - x : Nat) : Int) := ⟨_, rfl⟩
        obtain ⟨Fu, hFu⟩ : ∃ B : Int, B = (fullN L : Nat) := ⟨_, rfl⟩
        rw [← hB] at cS cR hB0
        rw [← hB]
        rw [← hR] at cR hw
        rw [← hFu] at cF hw
        clear hB hR hFu hcast hrS hr hfu hpw hfl hp24 hp hh hgr hxl hx24 cA
        (refine wp_region_lat (wb) (by kernel_rfl) (by kernel_rfl) hE ?_); (repeat (go_big_quiet_step (first | (go_at_call 86; with_reducible exact Calls.lat (cS _ (lat_ext _ _))) | (go_at_call 85; with_reducible exact Calls.lat (cR _ (lat_ext _ _))) | (go_at_call 87; with_reducible exact Calls.lat (cF _ (lat_ext _ _)))))); (refine wpQuiet_nil ?_); (intro W hE'); (replace hE := lat_of hE'); (clear hE')
        go_wp2_with fail
        go_meet
        exact ⟨rfl, HP.out.1.trans hE, HP.out.2.ext hE⟩
  case rest =>
  clear cA cS cF cR hg hbb hbU HP Hwb hE H2
  obtain ⟨rfl, H3⟩ := hcut
  go_wp2_with fail
  refine (DrawPartsOfCayley_any _ _ _ H3.2).mono ?_
  rintro e w1 ⟨ao, L, c, a, rfl, hO, hE1⟩
  have hE2 := (Ext.refl w1).alloc (.cells #[.slice ao L.length c] 26)
  have hbb := box_cell w1 (.slice ao L.length c) 26
  have hg := fun W hW => (hO.ints.ext hE2).ext (w' := W) hW
  have HP := Lib.hid (show LawP w v l (w1.alloc (.cells #[.slice ao L.length c] 26)) from ⟨H3.1.trans (hE1.trans hE2), H3.2.ext (hE1.trans hE2)⟩)
  obtain ⟨wb, hwb⟩ : ∃ x, x = w1.alloc (.cells #[.slice ao L.length c] 26) := ⟨_, rfl⟩
  rw [← hwb] at hbb hg HP
  have Hwb := Lib.hid hwb
  have hE := Ext.refl wb
  have hbU := fun U => hbb _ (lat_ext wb U)
  clear hwb hE2 hO hE1
  have cA := fun W hW => PartsOfCayley_any _ L a W (hg W hW)
  have cS := fun W hW => sPartsOfCayley_any _ L a W (hg W hW)
  have cD := fun W hW => DiameterOfCayley_any _ L a W (hg W hW)
  have cE := fun W hW => sDiameterOfCayley_any _ L a W (hg W hW)
  have cI := fun W hW => IsConnection_any _ L a W (hg W hW)
  have hdb : -1 ≤ diamF L a ∧ diamF L a ≤ 24 := by
    unfold diamF; split
    · have := dmTo_bd L a (ord L); omega
    · omega
  go_wp2_with fail
  rw [← Hwb.out]
  refine (cA _ hE).mono ?_
  rintro e w' ⟨u, rfl, hOu, hE'⟩
  replace hE := hE.trans hE'
  clear hE'
  go_wp2_with fail
  refine (cS _ hE).mono ?_
  rintro e w' ⟨u2, rfl, hOu2, hE'⟩
  replace hE := hE.trans hE'
  have hIu := (hOu.ext hE').ints
  have hIu2 := hOu2.ints
  obtain ⟨au, ku, rfl, -⟩ := hOu2.shape
  clear hE' hOu hOu2
  go_wp2_with fail
  refine (cD _ hE).mono ?_
  rintro e w' ⟨rfl, hE'⟩
  replace hE := hE.trans hE'
  replace hIu := hIu.ext hE'
  replace hIu2 := hIu2.ext hE'
  clear hE'
  have cM := fun W (hW : Ext w' W) => sameInts_any _ _ _ _ W (hIu.ext hW) (hIu2.ext hW)
  rw [decide_eq_true (rfl : partsF L a = partsF L a)] at cM
  have hE9 := Ext.refl w'
  go_upto_region 30 with fail
  go_cut [25, 27, 249] (fun _ _ s wx => s = .bool false ∧ LawP w v l wx)
  case first =>
    as_aux_lemma =>
      cases hc : connB L a
      · rw [hc] at cI
        go_wp2_with (first | (go_at_call 28; (with_reducible refine Calls.mono (cM _ hE9) ?_); rintro e w' ⟨rfl, hE'⟩; replace hE := hE.trans hE'; clear hE') | (go_at_call 92; (with_reducible refine Calls.mono (cI _ hE) ?_); rintro e w' ⟨rfl, hE'⟩; replace hE := hE.trans hE'; clear hE') | (go_at_call 93; (with_reducible refine Calls.mono (cE _ hE) ?_); rintro e w' ⟨rfl, hE'⟩; replace hE := hE.trans hE'; clear hE'))
        go_meet
        exact ⟨rfl, HP.out.1.trans hE, HP.out.2.ext hE⟩
      · rw [hc] at cI
        have hpo := parts_one hc
        obtain ⟨M, hM⟩ : ∃ M, M = (partsF L a).length := ⟨_, rfl⟩
        obtain ⟨D, hD⟩ : ∃ D, D = diamF L a := ⟨_, rfl⟩
        rw [← hM, ← hD] at hpo
        have hM24 : M ≤ 24 := by
          obtain ⟨n, rfl, -, -, hg2⟩ := connB_nat hc
          rw [hM, partsF_yes hc, cosF_yes (subB_gen hg2 n), castL_len]
          exact Nat.le_trans (cosTo_len L (genF L n) (ord L)) (ord_bd hg2).2
        by_cases h0 : 0 ≤ D
        · have h1 := hpo.2 h0
          have hq : (((partsF L a).length : Int) == 1) = true := by rw [← hM, h1]; rfl
          have hq0 : 0 ≤ diamF L a := by rw [← hD]; exact h0
          clear hpo hM hD h1 hM24
          go_wp2_with (first | (go_at_call 28; (with_reducible refine Calls.mono (cM _ hE9) ?_); rintro e w' ⟨rfl, hE'⟩; replace hE := hE.trans hE'; clear hE') | (go_at_call 92; (with_reducible refine Calls.mono (cI _ hE) ?_); rintro e w' ⟨rfl, hE'⟩; replace hE := hE.trans hE'; clear hE') | (go_at_call 93; (with_reducible refine Calls.mono (cE _ hE) ?_); rintro e w' ⟨rfl, hE'⟩; replace hE := hE.trans hE'; clear hE'))
          go_meet
          exact ⟨rfl, HP.out.1.trans hE, HP.out.2.ext hE⟩
        · have h1 : ¬ M = 1 := fun e => h0 (hpo.1 e)
          have hq : (((partsF L a).length : Int) == 1) = false := by rw [← hM, beq_eq_false_iff_ne]; omega
          have hq0 : ¬ 0 ≤ diamF L a := by rw [← hD]; exact h0
          clear hpo hM hD h1 hM24
          go_wp2_with (first | (go_at_call 28; (with_reducible refine Calls.mono (cM _ hE9) ?_); rintro e w' ⟨rfl, hE'⟩; replace hE := hE.trans hE'; clear hE') | (go_at_call 92; (with_reducible refine Calls.mono (cI _ hE) ?_); rintro e w' ⟨rfl, hE'⟩; replace hE := hE.trans hE'; clear hE') | (go_at_call 93; (with_reducible refine Calls.mono (cE _ hE) ?_); rintro e w' ⟨rfl, hE'⟩; replace hE := hE.trans hE'; clear hE'))
          go_meet
          exact ⟨by rw [decide_eq_false (show ¬ (0 : Int) ≤ diamF L a by omega)], HP.out.1.trans hE, HP.out.2.ext hE⟩
  case rest =>
  clear cA cS cD cE cI cM hg hbb hbU HP Hwb hE hE9 H3 hIu hIu2 hdb
  obtain ⟨rfl, H4⟩ := hcut
  go_wp2_with fail
  refine (DrawIsIndependent_any _ _ _ H4.2).mono ?_
  rintro e w1 ⟨ao, L, c, a, x, rfl, hO, hE1⟩
  have hE2 := (Ext.refl w1).alloc (.cells #[.slice ao L.length c] 26)
  have hbb := box_cell w1 (.slice ao L.length c) 26
  have hg := fun W hW => (hO.ints.ext hE2).ext (w' := W) hW
  have HP := Lib.hid (show LawP w v l (w1.alloc (.cells #[.slice ao L.length c] 26)) from ⟨H4.1.trans (hE1.trans hE2), H4.2.ext (hE1.trans hE2)⟩)
  obtain ⟨wb, hwb⟩ : ∃ x, x = w1.alloc (.cells #[.slice ao L.length c] 26) := ⟨_, rfl⟩
  rw [← hwb] at hbb hg HP
  have Hwb := Lib.hid hwb
  have hE := Ext.refl wb
  have hbU := fun U => hbb _ (lat_ext wb U)
  clear hwb hE2 hO hE1
  go_wp2_with fail
  rw [← Hwb.out]
  have H5 := HP.out
  refine (DrawLeastExpansion_any _ _ _ H5.2).mono ?_
  rintro e w3 ⟨ao3, L3, c3, a3, rfl, hO3, hE3⟩
  have hE4 := (Ext.refl w3).alloc (.cells #[.slice ao3 L3.length c3] 26)
  have hbd := box_cell w3 (.slice ao3 L3.length c3) 26
  have hgd := fun W hW => (hO3.ints.ext hE4).ext (w' := W) hW
  have hg2 := fun W hW => hg W ((hE3.trans hE4).trans hW)
  have hbb2 := fun W hW => hbb W ((hE3.trans hE4).trans hW)
  have HP2 := Lib.hid (show Ext w (w3.alloc (.cells #[.slice ao3 L3.length c3] 26)) from H5.1.trans (hE3.trans hE4))
  obtain ⟨wd, hwd⟩ : ∃ x, x = w3.alloc (.cells #[.slice ao3 L3.length c3] 26) := ⟨_, rfl⟩
  rw [← hwd] at hbd hgd hg2 hbb2 HP2
  have Hwd := Lib.hid hwd
  have hEd := Ext.refl wd
  have hbU2 := fun U => hbb2 _ (lat_ext wd U)
  have cA := fun W hW => LeastExpansion_any _ L3 a3 W (hgd W hW)
  have cS := fun W hW => sLeastExpansion_any _ L3 a3 W (hgd W hW)
  have cB := fun W hW => IsIndependent_any _ L a x W (hg2 W hW)
  have cC := fun W hW => sIsIndependent_any _ L a x W (hg2 W hW)
  clear hwd hE4 hO3 hg hbb HP H4 H5 hbU Hwb hE hE3
  as_aux_lemma =>
    go_wp2_with fail
    rw [← Hwd.out]
    go_wp2_with (first | (go_at_call 96; (with_reducible refine Calls.mono (cA _ hEd) ?_); rintro e w' ⟨rfl, hE'⟩; replace hEd := hEd.trans hE'; clear hE') | (go_at_call 97; (with_reducible refine Calls.mono (cS _ hEd) ?_); rintro e w' ⟨rfl, hE'⟩; replace hEd := hEd.trans hE'; clear hE'))
    have hE := hEd
    (refine wp_region_lat (wd) (by kernel_rfl) (by kernel_rfl) hE ?_); (repeat (go_big_quiet_step (first | (go_at_call 98; with_reducible exact Calls.lat (cB _ (lat_ext _ _))) | (go_at_call 99; with_reducible exact Calls.lat (cC _ (lat_ext _ _)))))); (refine wpQuiet_nil ?_); (intro W hE'); (replace hE := lat_of hE'); (clear hE')
    go_wp2_with fail
    go_ret
    exact ⟨rfl, HP2.out.trans hE⟩
end Go.Zz
