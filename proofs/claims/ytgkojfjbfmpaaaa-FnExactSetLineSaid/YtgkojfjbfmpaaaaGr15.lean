/- Sums of a set with itself: MultipleSum, GrowthOf, OrderOfBasis, IsBasis of both. -/
import Derived.Test.YtgkojfjbfmpaaaaGr5
import Derived.Test.YtgkojfjbfmpaaaaGr6
import Derived.Test.YtgkojfjbfmpaaaaGr10
import Derived.Test.YtgkojfjbfmpaaaaGr12
import Derived.Test.YtgkojfjbfmpaaaaGr13
import Derived.Test.YtgkojfjbfmpaaaaGr9
import Derived.Test.YtgkojfjbfmpaaaaGr14
import Derived.Test.YtgkojfjbfmpaaaaGr8
import Derived.Deep.RegionHeld3
namespace Go.Zz
open Go.RowKit Go.Proofs
set_option maxHeartbeats 2000000
set_option maxRecDepth 8000

/-- k times the set -/
def mulS (l : List Int) (a : Nat) : Nat → Nat
  | 0 => 1
  | k + 1 => sumF l (mulS l a k) a
theorem mulS_bd {l : List Int} (h : isGrp l = true) (a k : Nat) : mulS l a k < 2 ^ 24 := by
  cases k with
  | zero => show 1 < _; decide
  | succ k => exact sumF_bd h _ _
def growL (l : List Int) (a k : Nat) : List Nat := (List.range k).map (fun i => cnt (mulS l a (i + 1)))
theorem growL_snoc (l : List Int) (a k : Nat) : growL l a (k + 1) = growL l a k ++ [cnt (mulS l a (k + 1))] := by unfold growL; rw [List.range_succ, List.map_append]; rfl
theorem growL_len (l : List Int) (a k : Nat) : (growL l a k).length = k := by simp [growL]
def obF (l : List Int) (a : Nat) : Option Nat := (List.range 31).find? (fun k => mulS l a k == fullN l)
def obV (l : List Int) (a : Nat) : Int := match obF l a with | some k => k | none => -1
def basB (l : List Int) (a : Nat) : Bool := decide (0 ≤ obV l a)
theorem obV_at {l : List Int} {a k : Nat} (hk : k < 31) (h : ∀ j, j < k → (mulS l a j == fullN l) = false) (hp : (mulS l a k == fullN l) = true) : obV l a = k := by unfold obV obF; rw [find_at hk h hp]
theorem obV_none {l : List Int} {a : Nat} (h : ∀ j, j < 31 → (mulS l a j == fullN l) = false) : obV l a = -1 := by unfold obV obF; rw [find_none h]
theorem obV_bd (l : List Int) (a : Nat) : -1 ≤ obV l a := by unfold obV; split <;> omega
theorem set_nat {l : List Int} {n : Nat} (hs : isSetB l (n : Int) = true) : n < 2 ^ 24 ∧ isGrp l = true := by
  obtain ⟨m, hm, h1, h2, hgr⟩ := isSetB_nat hs
  have e : m = n := by omega
  subst e
  exact ⟨h2, hgr⟩
theorem MultipleSum_yes (v : Value) (l : List Int) (n k : Nat) (w : World) (h : Ints w v l) (hs : isSetB l (n : Int) = true) (hk : k ≤ 30) :
    Calls Try.prog 163 #[.agg #[v], .int .i64 n, .int .i64 k] w fun e w' => e = .returned (.int .i64 (mulS l n k)) ∧ Ext w w' := by
  obtain ⟨wb, hwb⟩ : ∃ wb, wb = w.alloc (.cells #[v] 26) := ⟨_, rfl⟩
  have hE0 := (Ext.refl w).alloc (.cells #[v] 26)
  have hb := box_cell w v 26
  rw [← hwb] at hE0 hb
  have hg : ∀ W, Ext wb W → Ints W v l := fun W hW => h.ext (hE0.trans hW)
  have hE := Ext.refl wb
  have Hsz : Hid (w.heap.size + 1 = wb.heap.size) := Lib.hid (by rw [hwb]; simp [go_sem])
  have Hwb := Lib.hid hwb
  clear hwb h
  have hbx := hb wb hE
  obtain ⟨h2, hgr⟩ := set_nat hs
  have Hgr := Lib.hid hgr
  have hin : inB (k : Int) 0 30 = true := inB_t.2 (by omega)
  have cW := fun W => within_any (k : Int) 0 30 W
  rw [hin] at cW
  clear hgr hin
  go_enter Try.func163, Try.ntmps163
  go_wp2_with fail
  rw [← Hwb.out]
  go_wp2_with (first | (go_at_call 66; refine (IsSet_val _ _ _ _ (hg _ hE) (hs)).mono ?_; rintro e w' ⟨rfl, hE'⟩; replace hE := hE.trans hE'; clear hE') | (go_at_call 136; refine (cW _).mono ?_; rintro e w' ⟨rfl, rfl⟩))
  go_loopw [7, 18] (fun ss sj wr => ∃ j : Nat, j ≤ k ∧ sj = .int .i64 j ∧ ss = .int .i64 (mulS l n j) ∧ Ext wb wr) (fun _ sj _ => k - (intOf sj).toNat)
  case atStart => exact ⟨0, by omega, rfl, rfl, hE⟩
  case round =>
    clear hE
    obtain ⟨j, hj, rfl, rfl, hE⟩ := hrel
    have hbx := hb _ hE
    have hM := mulS_bd Hgr.out n j
    have Hn : Hid (mulS l n (j + 1) = sumF l (mulS l n j) n) := Lib.hid rfl
    by_cases hlt : j < k
    · have hltI : (j : Int) < (k : Int) := by omega
      obtain ⟨M, hMd⟩ : ∃ M, M = mulS l n j := ⟨_, rfl⟩
      rw [← hMd] at hM Hn ⊢
      clear hMd
      go_wp2_with (first | (go_at_call 72; refine (sum_any _ _ _ _ _ (hg _ hE) (Hgr) (hM) (h2)).mono ?_; rintro e w' ⟨rfl, hE'⟩; replace hE := hE.trans hE'; clear hE'))
      go_roundw
      case rel => exact ⟨j + 1, by omega, by go_num, by rw [Hn.out], hE⟩
      case measure => (simp [intOf]; omega)
    · have hltI : ¬ (j : Int) < (k : Int) := by omega
      have hjk : j = k := by omega
      subst hjk
      go_wp2_with fail
      go_ret
      exact ⟨rfl, hE0.trans hE⟩
theorem GrowthOf_yes (v : Value) (l : List Int) (n : Nat) (w : World) (h : Ints w v l) (hs : isSetB l (n : Int) = true) :
    Calls Try.prog 114 #[.agg #[v], .int .i64 n, .int .i64 4] w fun e w' => ∃ v', e = .returned v' ∧ Own 3 w w' v' (castL (growL l n 4)) ∧ Ext w w' := by
  obtain ⟨wb, hwb⟩ : ∃ wb, wb = w.alloc (.cells #[v] 26) := ⟨_, rfl⟩
  have hE0 := (Ext.refl w).alloc (.cells #[v] 26)
  have hb := box_cell w v 26
  rw [← hwb] at hE0 hb
  have hg : ∀ W, Ext wb W → Ints W v l := fun W hW => h.ext (hE0.trans hW)
  have hE := Ext.refl wb
  have Hsz : Hid (w.heap.size + 1 = wb.heap.size) := Lib.hid (by rw [hwb]; simp [go_sem])
  have Hwb := Lib.hid hwb
  clear hwb h
  obtain ⟨wc, hwc⟩ : ∃ wc, wc = wb.alloc (.cells #[] 3) := ⟨_, rfl⟩
  have hO : Own 3 wb wc (.slice (some ⟨wb.heap.size, 0, none⟩) 0 0) [] := by rw [hwc]; exact own_made (by omega) hE [] rfl
  replace hE : Ext wb wc := by rw [hwc]; exact hE.alloc _
  have Hsz2 : Hid (wb.heap.size + 1 = wc.heap.size) := Lib.hid (by rw [hwc]; simp [go_sem])
  have Hwc := Lib.hid hwc
  clear hwc
  obtain ⟨h2, hgr⟩ := set_nat hs
  have Hgr := Lib.hid hgr
  have hin : inB (4 : Int) 0 30 = true := by decide
  have cW := fun W => within_any (4 : Int) 0 30 W
  rw [hin] at cW
  have hbx := hb _ hE
  clear hgr hin
  go_enter Try.func114, Try.ntmps114
  go_wp2_with fail
  rw [← Hwb.out, ← Hwc.out]; rw [Hsz.out]; try rw [Hsz2.out]
  go_wp2_with (first | (go_at_call 66; refine (IsSet_val _ _ _ _ (hg _ hE) hs).mono ?_; rintro e w3 ⟨rfl, hE3⟩) | (go_at_call 136; refine (cW _).mono ?_; rintro e w' ⟨rfl, rfl⟩))
  go_loopw [7, 8] (fun sv sk wr => ∃ j : Nat, 1 ≤ j ∧ j ≤ 5 ∧ sk = .int .i64 j ∧ Own 3 wb wr sv (castL (growL l n (j - 1))) ∧ Ext wb wr) (fun _ sk _ => 5 - (intOf sk).toNat)
  case atStart => exact ⟨1, by omega, by omega, rfl, (hO.ext hE3 : Own 3 wb _ _ []), hE.trans hE3⟩
  case round =>
    clear hE hO hE3
    rename World => wr
    obtain ⟨j, hj1, hj2, rfl, hO, hE⟩ := hrel
    have hbx := hb _ hE
    have hln : (castL (growL l n (j - 1))).length < 17592186044416 := by rw [castL_len, growL_len]; omega
    by_cases hlt : j ≤ 4
    · have hltI : (j : Int) ≤ 4 := by omega
      have cM := MultipleSum_yes v l n j wr (hg _ hE) hs (by omega)
      have hM := mulS_bd Hgr.out n j
      have Hn : Hid (growL l n (j + 1 - 1) = growL l n (j - 1) ++ [cnt (mulS l n j)]) := Lib.hid (by
        have := growL_snoc l n (j - 1)
        rw [show j - 1 + 1 = j by omega] at this
        rw [show j + 1 - 1 = j by omega]; exact this)
      obtain ⟨M, hMd⟩ : ∃ M, M = mulS l n j := ⟨_, rfl⟩
      rw [← hMd] at hM Hn cM
      have cB := fun W => bits_any M hM W
      clear hMd
      go_wp2_with (first | (go_at_call 163; refine cM.mono ?_; rintro e w3 ⟨rfl, hE3⟩) | (go_at_call 83; refine (cB _).mono ?_; rintro e w' ⟨rfl, rfl⟩) | (at_builtin; refine wp_append1 slI rfl _ _ rfl wb _ _ _ _ (hO.ext hE3) (hE.trans hE3) hln rfl rfl ?_; intro v1 w1 hO1 hE1))
      go_roundw
      case rel => exact ⟨j + 1, by omega, by omega, by go_num, by rw [Hn.out]; simpa [castL_snoc] using hO1, hE1⟩
      case measure => (simp [intOf]; omega)
    · have hltI : ¬ (j : Int) ≤ 4 := by omega
      have hj5 : j = 5 := by omega
      subst hj5
      go_wp2_with fail
      go_ret
      exact ⟨_, rfl, hO.mono hE0, hE0.trans hE⟩
theorem sGrowthOf_yes (v : Value) (l : List Int) (n : Nat) (w : World) (h : Ints w v l) (hs : isSetB l (n : Int) = true) :
    Calls Try.prog 100 #[.agg #[v], .int .i64 n, .int .i64 4] w fun e w' => ∃ v', e = .returned v' ∧ Own 3 w w' v' (castL (growL l n 4)) ∧ Ext w w' := by
  obtain ⟨wb, hwb⟩ : ∃ wb, wb = w.alloc (.cells #[v] 26) := ⟨_, rfl⟩
  have hE0 := (Ext.refl w).alloc (.cells #[v] 26)
  have hb := box_cell w v 26
  rw [← hwb] at hE0 hb
  have hg : ∀ W, Ext wb W → Ints W v l := fun W hW => h.ext (hE0.trans hW)
  have hE := Ext.refl wb
  have Hsz : Hid (w.heap.size + 1 = wb.heap.size) := Lib.hid (by rw [hwb]; simp [go_sem])
  have Hwb := Lib.hid hwb
  clear hwb h
  obtain ⟨wc, hwc⟩ : ∃ wc, wc = wb.alloc (.cells #[] 3) := ⟨_, rfl⟩
  have hO : Own 3 wb wc (.slice (some ⟨wb.heap.size, 0, none⟩) 0 0) [] := by rw [hwc]; exact own_made (by omega) hE [] rfl
  replace hE : Ext wb wc := by rw [hwc]; exact hE.alloc _
  have Hsz2 : Hid (wb.heap.size + 1 = wc.heap.size) := Lib.hid (by rw [hwc]; simp [go_sem])
  have Hwc := Lib.hid hwc
  clear hwc
  obtain ⟨h2, hgr⟩ := set_nat hs
  have Hgr := Lib.hid hgr
  have hin : inB (4 : Int) 0 30 = true := by decide
  have cW := fun W => l1In_any (4 : Int) 0 30 W
  rw [hin] at cW
  have hbx := hb _ hE
  clear hgr hin
  go_enter Try.func100, Try.ntmps100
  go_wp2_with fail
  rw [← Hwb.out, ← Hwc.out]; rw [Hsz.out]; try rw [Hsz2.out]
  go_wp2_with (first | (go_at_call 73; refine (sIsSet_val _ _ _ _ (hg _ hE) hs).mono ?_; rintro e w3 ⟨rfl, hE3⟩) | (go_at_call 141; refine (cW _).mono ?_; rintro e w' ⟨rfl, rfl⟩))
  go_loopw [7, 8, 9] (fun sv ss sk wr => ∃ j : Nat, j ≤ 4 ∧ sk = .int .i64 j ∧ ss = .int .i64 (mulS l n j) ∧ Own 3 wb wr sv (castL (growL l n j)) ∧ Ext wb wr) (fun _ _ sk _ => 4 - (intOf sk).toNat)
  case atStart => exact ⟨0, by omega, rfl, rfl, (hO.ext hE3 : Own 3 wb _ _ []), hE.trans hE3⟩
  case round =>
    clear hE hO hE3
    rename World => wr
    obtain ⟨j, hj2, rfl, rfl, hO, hE⟩ := hrel
    have hbx := hb _ hE
    have hln : (castL (growL l n j)).length < 17592186044416 := by rw [castL_len, growL_len]; omega
    by_cases hlt : j < 4
    · have hltI : (j : Int) < 4 := by omega
      have hM := mulS_bd Hgr.out n j
      have hM1 := mulS_bd Hgr.out n (j + 1)
      have Hm : Hid (mulS l n (j + 1) = sumF l (mulS l n j) n) := Lib.hid rfl
      have cS := l4Sum_any v l (mulS l n j) n wr (hg _ hE) Hgr hM h2
      have Hn := Lib.hid (growL_snoc l n j)
      rw [← Hm.out] at cS
      obtain ⟨M1, hM1d⟩ : ∃ M, M = mulS l n (j + 1) := ⟨_, rfl⟩
      obtain ⟨M, hMd⟩ : ∃ M, M = mulS l n j := ⟨_, rfl⟩
      rw [← hMd] at cS ⊢
      rw [← hM1d] at hM1 Hn cS
      have HM1 := Lib.hid hM1d
      have cB := fun W => l3Bits_any M1 hM1 W
      clear hMd hM1d Hm hM
      go_wp2_with (first | (go_at_call 74; refine cS.mono ?_; rintro e w3 ⟨rfl, hE3⟩) | (go_at_call 85; refine (cB _).mono ?_; rintro e w' ⟨rfl, rfl⟩) | (at_builtin; refine wp_append1 slI rfl _ _ rfl wb _ _ _ _ (hO.ext hE3) (hE.trans hE3) hln rfl rfl ?_; intro v1 w1 hO1 hE1))
      go_roundw
      case rel => exact ⟨j + 1, by omega, by go_num, by rw [HM1.out], by rw [Hn.out]; simpa [castL_snoc] using hO1, hE1⟩
      case measure => (simp [intOf]; omega)
    · have hltI : ¬ (j : Int) < 4 := by omega
      have hj5 : j = 4 := by omega
      subst hj5
      go_wp2_with fail
      go_ret
      exact ⟨_, rfl, hO.mono hE0, hE0.trans hE⟩
end Go.Zz

/- Orders of bases: OrderOfBasis, IsBasis of both. -/
namespace Go.Zz
open Go.RowKit Go.Proofs
set_option maxHeartbeats 2000000
set_option maxRecDepth 8000

theorem OrderOfBasis_yes (v : Value) (l : List Int) (n : Nat) (w : World) (h : Ints w v l) (hs : isSetB l (n : Int) = true) :
    Calls Try.prog 165 #[.agg #[v], .int .i64 n] w fun e w' => e = .returned (.int .i64 (obV l n)) ∧ Ext w w' := by
  obtain ⟨wb, hwb⟩ : ∃ wb, wb = w.alloc (.cells #[v] 26) := ⟨_, rfl⟩
  have hE0 := (Ext.refl w).alloc (.cells #[v] 26)
  have hb := box_cell w v 26
  rw [← hwb] at hE0 hb
  have hg : ∀ W, Ext wb W → Ints W v l := fun W hW => h.ext (hE0.trans hW)
  have hE := Ext.refl wb
  have Hsz : Hid (w.heap.size + 1 = wb.heap.size) := Lib.hid (by rw [hwb]; simp [go_sem])
  have Hwb := Lib.hid hwb
  clear hwb h
  obtain ⟨h2, hgr⟩ := set_nat hs
  have Hgr := Lib.hid hgr
  clear hgr
  go_enter Try.func165, Try.ntmps165
  go_wp2_with fail
  rw [← Hwb.out]
  go_loopw [5] (fun sk wr => ∃ k : Nat, k ≤ 31 ∧ sk = .int .i64 k ∧ Ext wb wr ∧ Hid (∀ j, j < k → (mulS l n j == fullN l) = false)) (fun sk _ => 31 - (intOf sk).toNat)
  case atStart => exact ⟨0, by omega, rfl, hE, Lib.hid fun j hj => absurd hj (by omega)⟩
  case round =>
    clear hE
    rename World => wr
    obtain ⟨k, hk, rfl, hE, HN⟩ := hrel
    have hbx := hb _ hE
    by_cases hlt : k ≤ 30
    · have hltI : (k : Int) ≤ 30 := by omega
      go_wp2_with (go_at_call 66; refine (IsSet_val _ _ _ _ (hg _ hE) hs).mono ?_; rintro e w3 ⟨rfl, hE3⟩)
      have hE03 := hE.trans hE3
      have hbU := fun U => hb _ (hE03.trans (lat_ext w3 U))
      have cM := fun U => MultipleSum_yes v l n k (Lat w3 U) (hg _ (hE03.trans (lat_ext w3 U))) hs (by omega)
      have cF := fun U => FullSet_grp v l (Lat w3 U) (hg _ (hE03.trans (lat_ext w3 U))) Hgr
      obtain ⟨M, hMd⟩ : ∃ M, M = mulS l n k := ⟨_, rfl⟩
      obtain ⟨F, hFd⟩ : ∃ M, M = fullN l := ⟨_, rfl⟩
      simp only [← hMd] at cM
      simp only [← hFd] at cF
      cases hq : (M == F)
      · have hqI : ((M : Int) == (F : Int)) = false := by rw [beq_eq_false_iff_ne] at hq ⊢; omega
        have Hq : Hid ((mulS l n k == fullN l) = false) := Lib.hid (by rw [← hMd, ← hFd]; exact hq)
        clear hq hMd hFd hE hE3
        have hE := Ext.refl w3
        (refine wp_region_lat (w3) (by kernel_rfl) (by kernel_rfl) hE ?_); (repeat (go_big_quiet_step (first | (go_at_call 163; with_reducible exact Calls.lat (cM _)) | (go_at_call 82; with_reducible exact Calls.lat (cF _))))); (refine wpQuiet_nil ?_); (intro W hE'); (replace hE := lat_of hE'); (clear hE')
        go_wp2_with fail
        go_roundw
        case rel => exact ⟨k + 1, by omega, by go_num, hE03.trans hE, Lib.hid fun j hj => by by_cases q : j = k; (rw [q]; exact Hq.out); exact HN.out j (by omega)⟩
        case measure => (simp [intOf]; omega)
      · have hqI : ((M : Int) == (F : Int)) = true := by rw [beq_iff_eq] at hq ⊢; omega
        have Hq : Hid (obV l n = (k : Int)) := Lib.hid (obV_at (by omega) HN.out (by rw [← hMd, ← hFd]; exact hq))
        clear hq hMd hFd hE hE3
        have hE := Ext.refl w3
        (refine wp_region_lat (w3) (by kernel_rfl) (by kernel_rfl) hE ?_); (repeat (go_big_quiet_step (first | (go_at_call 163; with_reducible exact Calls.lat (cM _)) | (go_at_call 82; with_reducible exact Calls.lat (cF _))))); (refine wpQuiet_nil ?_); (intro W hE'); (replace hE := lat_of hE'); (clear hE')
        go_wp2_with fail
        go_ret
        exact ⟨ret_int Hq.out.symm, hE0.trans (hE03.trans hE)⟩
    · have hltI : ¬ (k : Int) ≤ 30 := by omega
      have Hq := Lib.hid (obV_none (l := l) (a := n) fun j hj => HN.out j (by omega))
      go_wp2_with fail
      go_ret
      exact ⟨ret_int Hq.out.symm, hE0.trans hE⟩
theorem IsBasis_yes (v : Value) (l : List Int) (n : Nat) (w : World) (h : Ints w v l) (hs : isSetB l (n : Int) = true) :
    Calls Try.prog 120 #[.agg #[v], .int .i64 n] w fun e w' => e = .returned (.bool (basB l n)) ∧ Ext w w' := by
  obtain ⟨wb, hwb⟩ : ∃ wb, wb = w.alloc (.cells #[v] 26) := ⟨_, rfl⟩
  have hE0 := (Ext.refl w).alloc (.cells #[v] 26)
  have hb := box_cell w v 26
  rw [← hwb] at hE0 hb
  have hg : ∀ W, Ext wb W → Ints W v l := fun W hW => h.ext (hE0.trans hW)
  have hE := Ext.refl wb
  have Hsz : Hid (w.heap.size + 1 = wb.heap.size) := Lib.hid (by rw [hwb]; simp [go_sem])
  have Hwb := Lib.hid hwb
  clear hwb h
  have hbx := hb wb hE
  have cO := OrderOfBasis_yes v l n wb (hg _ hE) hs
  have hbd := obV_bd l n
  have Hq : Hid ((obV l n != -1) = basB l n) := Lib.hid (by
    unfold basB
    rw [Bool.eq_iff_iff, bne_iff_ne, decide_eq_true_iff]; omega)
  obtain ⟨O, hO⟩ : ∃ O, O = obV l n := ⟨_, rfl⟩
  rw [← hO] at cO Hq
  clear hO hbd
  go_enter Try.func120, Try.ntmps120
  go_wp2_with fail
  rw [← Hwb.out]
  go_wp2_with (go_at_call 165; refine cO.mono ?_; rintro e w3 ⟨rfl, hE3⟩)
  go_ret
  exact ⟨ret_bool Hq.out, hE0.trans hE3⟩
theorem sOrderOfBasis_yes (v : Value) (l : List Int) (n : Nat) (w : World) (h : Ints w v l) (hs : isSetB l (n : Int) = true) :
    Calls Try.prog 157 #[.agg #[v], .int .i64 n] w fun e w' => e = .returned (.int .i64 (obV l n)) ∧ Ext w w' := by
  obtain ⟨wb, hwb⟩ : ∃ wb, wb = w.alloc (.cells #[v] 26) := ⟨_, rfl⟩
  have hE0 := (Ext.refl w).alloc (.cells #[v] 26)
  have hb := box_cell w v 26
  rw [← hwb] at hE0 hb
  have hg : ∀ W, Ext wb W → Ints W v l := fun W hW => h.ext (hE0.trans hW)
  have hE := Ext.refl wb
  have Hsz : Hid (w.heap.size + 1 = wb.heap.size) := Lib.hid (by rw [hwb]; simp [go_sem])
  have Hwb := Lib.hid hwb
  clear hwb h
  have hbx := hb wb hE
  obtain ⟨h2, hgr⟩ := set_nat hs
  have Hgr := Lib.hid hgr
  have hob := ord_bd hgr
  have hs1 := ishl_one (n := ord l) (by omega)
  have hfl : ((pw (ord l) : Nat) : Int) - 1 = (fullN l : Int) := by unfold fullN; have := pw_pos (ord l); omega
  have hp2 := pw_le hob.2
  have hfw : IntKind.i64.wrap (((pw (ord l) : Nat) : Int) - 1) = (fullN l : Int) := by rw [hfl]; exact IntWalk.i64_in _ (by unfold fullN; omega)
  obtain ⟨F, hFd⟩ : ∃ M, M = fullN l := ⟨_, rfl⟩
  rw [← hFd] at hfw
  have HF := Lib.hid hFd
  clear hgr hfl hFd
  go_enter Try.func157, Try.ntmps157
  go_wp2_with fail
  rw [← Hwb.out]
  go_wp2_with (first | (go_at_call 73; refine (sIsSet_val _ _ _ _ (hg _ hE) (hs)).mono ?_; rintro e w' ⟨rfl, hE'⟩; replace hE := hE.trans hE'; clear hE'))
  go_loopw [5, 6] (fun ss sk wr => ∃ k : Nat, k ≤ 31 ∧ sk = .int .i64 k ∧ ss = .int .i64 (mulS l n k) ∧ Ext wb wr ∧ Hid (∀ j, j < k → (mulS l n j == fullN l) = false)) (fun _ sk _ => 31 - (intOf sk).toNat)
  case atStart => exact ⟨0, by omega, rfl, rfl, hE, Lib.hid fun j hj => absurd hj (by omega)⟩
  case round =>
    clear hE
    rename World => wr
    obtain ⟨k, hk, rfl, rfl, hE, HN⟩ := hrel
    have hbx := hb _ hE
    by_cases hlt : k ≤ 30
    · have hltI : (k : Int) ≤ 30 := by omega
      have hM := mulS_bd Hgr.out n k
      have Hm : Hid (mulS l n (k + 1) = sumF l (mulS l n k) n) := Lib.hid rfl
      obtain ⟨M, hMd⟩ : ∃ M, M = mulS l n k := ⟨_, rfl⟩
      rw [← hMd] at hM Hm ⊢
      cases hq : (M == F)
      · have hqI : ((M : Int) == (F : Int)) = false := by rw [beq_eq_false_iff_ne] at hq ⊢; omega
        have Hq : Hid ((mulS l n k == fullN l) = false) := Lib.hid (by rw [← hMd, ← HF.out]; exact hq)
        clear hq hMd
        go_wp2_with (first | (go_at_call 84; refine (l2Order_any _ _ _ (hg _ hE) (Hgr)).mono ?_; rintro e w' ⟨rfl, hE'⟩; replace hE := hE.trans hE'; clear hE') | (go_at_call 74; refine (l4Sum_any _ _ _ _ _ (hg _ hE) (Hgr) (hM) (h2)).mono ?_; rintro e w' ⟨rfl, hE'⟩; replace hE := hE.trans hE'; clear hE'))
        go_roundw
        case rel => exact ⟨k + 1, by omega, by go_num, by rw [Hm.out], hE, Lib.hid fun j hj => by by_cases q : j = k; (rw [q]; exact Hq.out); exact HN.out j (by omega)⟩
        case measure => (simp [intOf]; omega)
      · have hqI : ((M : Int) == (F : Int)) = true := by rw [beq_iff_eq] at hq ⊢; omega
        have Hq : Hid (obV l n = (k : Int)) := Lib.hid (obV_at (by omega) HN.out (by rw [← hMd, ← HF.out]; exact hq))
        clear hq hMd
        go_wp2_with (first | (go_at_call 84; refine (l2Order_any _ _ _ (hg _ hE) (Hgr)).mono ?_; rintro e w' ⟨rfl, hE'⟩; replace hE := hE.trans hE'; clear hE'))
        go_ret
        exact ⟨ret_int Hq.out.symm, hE0.trans hE⟩
    · have hltI : ¬ (k : Int) ≤ 30 := by omega
      have Hq := Lib.hid (obV_none (l := l) (a := n) fun j hj => HN.out j (by omega))
      go_wp2_with fail
      go_ret
      exact ⟨ret_int Hq.out.symm, hE0.trans hE⟩
theorem sIsBasis_yes (v : Value) (l : List Int) (n : Nat) (w : World) (h : Ints w v l) (hs : isSetB l (n : Int) = true) :
    Calls Try.prog 106 #[.agg #[v], .int .i64 n] w fun e w' => e = .returned (.bool (basB l n)) ∧ Ext w w' := by
  obtain ⟨wb, hwb⟩ : ∃ wb, wb = w.alloc (.cells #[v] 26) := ⟨_, rfl⟩
  have hE0 := (Ext.refl w).alloc (.cells #[v] 26)
  have hb := box_cell w v 26
  rw [← hwb] at hE0 hb
  have hg : ∀ W, Ext wb W → Ints W v l := fun W hW => h.ext (hE0.trans hW)
  have hE := Ext.refl wb
  have Hsz : Hid (w.heap.size + 1 = wb.heap.size) := Lib.hid (by rw [hwb]; simp [go_sem])
  have Hwb := Lib.hid hwb
  clear hwb h
  have hbx := hb wb hE
  have cO := sOrderOfBasis_yes v l n wb (hg _ hE) hs
  have Hq : Hid (decide (0 ≤ obV l n) = basB l n) := Lib.hid rfl
  obtain ⟨O, hO⟩ : ∃ O, O = obV l n := ⟨_, rfl⟩
  rw [← hO] at cO Hq
  clear hO
  go_enter Try.func106, Try.ntmps106
  go_wp2_with fail
  rw [← Hwb.out]
  go_wp2_with (go_at_call 157; refine cO.mono ?_; rintro e w3 ⟨rfl, hE3⟩)
  go_ret
  exact ⟨ret_bool Hq.out, hE0.trans hE3⟩
end Go.Zz

/- Progressions in a set, by their first term and difference (plain). -/
namespace Go.Zz
open Go.RowKit Go.Proofs
set_option linter.unusedVariables false

/-- x + jd -/
def ptF (l : List Int) (x d : Nat) : Nat → Nat
  | 0 => x
  | j + 1 => addF l (ptF l x d j) d
theorem ptF_lt {l : List Int} (h : isGrp l = true) {x d : Nat} (hx : x < ord l) : ∀ j, ptF l x d j < ord l
  | 0 => hx
  | j + 1 => addF_lt l (isGrp_ords h) _ _
theorem ptF_back {l : List Int} (h : isGrp l = true) {x d : Nat} (hx : x < ord l) : ∀ i j, ptF l x d i = ptF l x d (i + j) → ptF l x d j = x
  | 0, j, e => by rw [Nat.zero_add] at e; exact e.symm
  | i + 1, j, e => by
    refine ptF_back h hx i j ?_
    rw [show i + 1 + j = (i + j) + 1 by omega] at e
    have e' : addF l d (ptF l x d i) = addF l d (ptF l x d (i + j)) := by rw [addF_comm l d, addF_comm l d]; exact e
    exact addF_cancel (isGrp_ords h) (ptF_lt h hx _) (ptF_lt h hx _) e'
/-- the first c terms lie in the set and come back to x nowhere -/
def Run (l : List Int) (a x d c : Nat) : Prop := ∀ i, 1 ≤ i → i < c → ptF l x d i ≠ x ∧ a.testBit (ptF l x d i) = true
theorem Run.ne {l : List Int} (h : isGrp l = true) {a x d c : Nat} (hx : x < ord l) (hR : Run l a x d c) {i j : Nat} (hij : i < j) (hj : j < c) : ptF l x d i ≠ ptF l x d j := fun e => by
  have := ptF_back h hx i (j - i) (by rw [show i + (j - i) = j by omega]; exact e)
  exact (hR (j - i) (by omega) (by omega)).1 this
theorem Run.le {l : List Int} (h : isGrp l = true) {a x d c : Nat} (hx : x < ord l) (hR : Run l a x d c) : c ≤ 24 := by
  have hn : ((List.range c).map (ptF l x d)).Nodup := by
    unfold List.Nodup
    rw [List.pairwise_map]
    refine List.Pairwise.imp_of_mem ?_ List.pairwise_lt_range
    intro i j hi hj hij
    exact Run.ne h hx hR hij (List.mem_range.1 hj)
  have hb := cnt_bset hn (fun y hy => by
    rw [List.mem_map] at hy
    obtain ⟨j, -, rfl⟩ := hy
    exact Nat.lt_of_lt_of_le (ptF_lt h hx j) (ord_bd h).2)
  have := cnt_le (bset ((List.range c).map (ptF l x d)))
  rw [hb, List.length_map, List.length_range] at this
  exact this
/-- the length of the run from x by d -/
def runL (l : List Int) (a x d : Nat) : Nat := match (List.range 24).find? (fun j => (ptF l x d (j + 1) == x) || !(a.testBit (ptF l x d (j + 1)))) with | some j => j + 1 | none => 0
set_option linter.unusedVariables false
theorem runL_at {l : List Int} (h : isGrp l = true) {a x d c : Nat} (hx : x < ord l) (hc : 1 ≤ c) (hR : Run l a x d c) (hs : ptF l x d c = x ∨ a.testBit (ptF l x d c) = false) : runL l a x d = c := by
  have hle := Run.le h hx hR
  have e : (List.range 24).find? (fun j => (ptF l x d (j + 1) == x) || !(a.testBit (ptF l x d (j + 1)))) = some (c - 1) := by
    refine find_at (by omega) (fun j hj => ?_) ?_
    · obtain ⟨h1, h2⟩ := hR (j + 1) (by omega) (by omega)
      rw [h2, beq_eq_false_iff_ne.2 h1]; rfl
    · rw [show c - 1 + 1 = c by omega]
      rcases hs with hs | hs
      · rw [hs]; simp
      · rw [hs]; simp
  unfold runL; rw [e]; show c - 1 + 1 = c; omega
theorem Run.one (l : List Int) (a x d : Nat) : Run l a x d 1 := fun i h1 h2 => by omega
theorem Run.next {l : List Int} {a x d c : Nat} (hR : Run l a x d c) (h1 : ptF l x d c ≠ x) (h2 : a.testBit (ptF l x d c) = true) : Run l a x d (c + 1) := fun i hi1 hi2 => by
  by_cases q : i = c
  · subst q; exact ⟨h1, h2⟩
  · exact hR i hi1 (by omega)
/-- the terms seen -/
def seenN (l : List Int) (x d : Nat) : Nat → Nat
  | 0 => 0
  | c + 1 => seenN l x d c ||| 2 ^ ptF l x d c
theorem seenN_lt {l : List Int} (h : isGrp l = true) {x d : Nat} (hx : x < ord l) : ∀ c, seenN l x d c < 2 ^ 24
  | 0 => by show 0 < _; decide
  | c + 1 => Nat.or_lt_two_pow (seenN_lt h hx c) (Nat.pow_lt_pow_right (by omega) (Nat.lt_of_lt_of_le (ptF_lt h hx c) (ord_bd h).2))
theorem seenN_bit (l : List Int) (x d y : Nat) : ∀ c, (seenN l x d c).testBit y = true ↔ ∃ i, i < c ∧ ptF l x d i = y
  | 0 => by simp [seenN]
  | c + 1 => by
    show (seenN l x d c ||| 2 ^ ptF l x d c).testBit y = true ↔ _
    rw [Nat.testBit_or, Bool.or_eq_true, seenN_bit l x d y c, Nat.testBit_two_pow, decide_eq_true_iff]
    constructor
    · rintro (⟨i, h1, h2⟩ | h)
      · exact ⟨i, by omega, h2⟩
      · exact ⟨c, by omega, h⟩
    · rintro ⟨i, h1, h2⟩
      by_cases q : i = c
      · subst q; exact Or.inr h2
      · exact Or.inl ⟨i, by omega, h2⟩
theorem seen_stop {l : List Int} (h : isGrp l = true) {a x d c : Nat} (hx : x < ord l) (hc : 1 ≤ c) (hR : Run l a x d c) (hs : (seenN l x d c).testBit (ptF l x d c) = true) : ptF l x d c = x := by
  obtain ⟨i, h1, h2⟩ := (seenN_bit l x d _ c).1 hs
  by_cases q : i = 0
  · subst q; exact h2.symm
  · have := ptF_back h hx i (c - i) (by rw [show i + (c - i) = c by omega]; exact h2)
    exact absurd this (hR (c - i) (by omega) (by omega)).1
theorem seen_new {l : List Int} {x d c : Nat} (hc : 1 ≤ c) (hs : (seenN l x d c).testBit (ptF l x d c) = false) : ptF l x d c ≠ x := fun e => by
  have := (seenN_bit l x d (ptF l x d c) c).2 ⟨0, by omega, e.symm⟩
  rw [this] at hs; cases hs
/-- the longest run so far -/
def lpD (l : List Int) (a x m k : Nat) : Nat := (List.range k).foldl (fun b d => max b (runL l a x d)) m
theorem lpD_zero (l : List Int) (a x m : Nat) : lpD l a x m 0 = m := rfl
theorem lpD_succ (l : List Int) (a x m k : Nat) : lpD l a x m (k + 1) = max (lpD l a x m k) (runL l a x k) := by unfold lpD; rw [List.range_succ, List.foldl_append]; rfl
def lpX (l : List Int) (a : Nat) (L : List Nat) : Nat := L.foldl (fun m x => lpD l a x m (ord l)) 0
theorem lpX_snoc (l : List Int) (a : Nat) (L : List Nat) (x : Nat) : lpX l a (L ++ [x]) = lpD l a x (lpX l a L) (ord l) := by unfold lpX; rw [List.foldl_append]; rfl
def lpF (l : List Int) (a : Nat) : Nat := lpX l a (elems a)
theorem runL_le (l : List Int) (a x d : Nat) : runL l a x d ≤ 24 := by
  unfold runL
  split
  · rename_i j hj
    have := List.mem_of_find?_eq_some hj
    rw [List.mem_range] at this; omega
  · omega
theorem lpD_le (l : List Int) (a x m : Nat) (hm : m ≤ 24) : ∀ k, lpD l a x m k ≤ 24
  | 0 => hm
  | k + 1 => by rw [lpD_succ]; have := lpD_le l a x m hm k; have := runL_le l a x k; omega
theorem lpX_take {l : List Int} {a : Nat} {L : List Nat} {k : Nat} (h : k < L.length) : lpX l a (L.take (k + 1)) = lpD l a (nthN L k) (lpX l a (L.take k)) (ord l) := by
  rw [List.take_add_one, show L[k]?.toList = [nthN L k] by simp [nthN, List.getD, h], lpX_snoc]
theorem lpX_le (l : List Int) (a : Nat) (L : List Nat) : ∀ k, lpX l a (L.take k) ≤ 24
  | 0 => by simp [lpX]
  | k + 1 => by
    by_cases h : k < L.length
    · rw [lpX_take h]; exact lpD_le _ _ _ _ (lpX_le l a L k) _
    · rw [List.take_of_length_le (by omega), ← List.take_of_length_le (l := L) (i := k) (by omega)]; exact lpX_le l a L k
end Go.Zz

/- The longest progression in a set: the program. -/
namespace Go.Zz
open Go.RowKit Go.Proofs
set_option maxHeartbeats 2000000
set_option maxRecDepth 8000

theorem set_lt {l : List Int} {n : Nat} (hs : isSetB l (n : Int) = true) : n < 2 ^ ord l := by
  obtain ⟨m, hm, h1, h2, hgr⟩ := isSetB_nat hs
  have e : m = n := by omega
  subst e
  exact h1
theorem el_ord {l : List Int} {n x : Nat} (h : n < 2 ^ ord l) (hx : x ∈ elems n) : x < ord l := by
  rw [mem_elems] at hx
  exact Nat.lt_of_not_le fun c => by
    have := Nat.testBit_lt_two_pow (Nat.lt_of_lt_of_le h (Nat.pow_le_pow_right (by omega) c))
    rw [hx.2] at this; cases this
theorem LongestProgression_yes (v : Value) (l : List Int) (n : Nat) (w : World) (h : Ints w v l) (hs : isSetB l (n : Int) = true) :
    Calls Try.prog 115 #[.agg #[v], .int .i64 n] w fun e w' => e = .returned (.int .i64 (lpF l n)) ∧ Ext w w' := by
  obtain ⟨wb, hwb⟩ : ∃ wb, wb = w.alloc (.cells #[v] 26) := ⟨_, rfl⟩
  have hE0 := (Ext.refl w).alloc (.cells #[v] 26)
  have hb := box_cell w v 26
  rw [← hwb] at hE0 hb
  have hg : ∀ W, Ext wb W → Ints W v l := fun W hW => h.ext (hE0.trans hW)
  have hE := Ext.refl wb
  have Hsz : Hid (w.heap.size + 1 = wb.heap.size) := Lib.hid (by rw [hwb]; simp [go_sem])
  have Hwb := Lib.hid hwb
  clear hwb h
  have hbx := hb wb hE
  obtain ⟨h2, hgr⟩ := set_nat hs
  have hnl := set_lt hs
  have Hgr := Lib.hid hgr
  have hob := ord_bd hgr
  clear hgr
  go_enter Try.func115, Try.ntmps115
  go_wp2_with fail
  rw [← Hwb.out]
  go_wp2_with (first | (go_at_call 66; refine (IsSet_val _ _ _ _ (hg _ hE) (hs)).mono ?_; rintro e w' ⟨rfl, hE'⟩; replace hE := hE.trans hE'; clear hE') | (go_at_call 139; refine (members_any n h2 _).mono ?_; rintro e w1 ⟨v1, rfl, hL, hE1⟩; obtain ⟨aoL, cL, adrL, rfl, hcap, hadrL, hcellL⟩ := hL.ints.natc; have hixL := ints_index (c := cL) elI szI hadrL))
  have hb1 : ∀ W, Ext w1 W → W.cell? ⟨w.heap.size, 0, none⟩ = some v := fun W hW => hb W (hE.trans (hE1.trans hW))
  have hg1 : ∀ W, Ext w1 W → Ints W v l := fun W hW => hg W (hE.trans (hE1.trans hW))
  have eW := hE0.trans (hE.trans hE1)
  have Hall : Hid (∀ y ∈ elems n, y < ord l ∧ n.testBit y = true) := Lib.hid fun y hy => ⟨el_ord hnl hy, (mem_elems.1 hy).2⟩
  have Hfin : Hid (lpF l n = lpX l n (elems n)) := Lib.hid rfl
  clear hb hg hbx hE hE1 hL hs hnl
  have hlen := elems_len n
  generalize elems n = L at hcellL hixL Hall hlen hcap hadrL Hfin ⊢
  have HcL := Lib.hid hcellL
  clear hadrL hcap hcellL
  have hE := Ext.refl w1
  go_loopw [18, 5] (fun i s wr => ∃ k : Nat, k ≤ L.length ∧ i = .int .i64 k ∧ s = .int .i64 (lpX l n (L.take k)) ∧ Ext w1 wr) (fun i _ _ => L.length - (intOf i).toNat)
  case atStart => exact ⟨0, by omega, rfl, rfl, hE⟩
  case round =>
    clear hE
    rename World => wr
    obtain ⟨k, hk, rfl, rfl, hE⟩ := hrel
    have hm24 := lpX_le l n L k
    by_cases hlt : k < L.length
    · have hltI : (k : Int) < (L.length : Int) := by omega
      have hck := HcL.out k _ hlt hE
      have hbx := hb1 _ hE
      obtain ⟨hxo, hxb⟩ := Hall.out _ (nthN_mem hlt)
      have Hnx := Lib.hid (lpX_take (l := l) (a := n) hlt)
      obtain ⟨x, hxd⟩ : ∃ x, x = nthN L k := ⟨_, rfl⟩
      obtain ⟨m, hmd⟩ : ∃ x, x = lpX l n (L.take k) := ⟨_, rfl⟩
      rw [← hxd] at hck hxo hxb Hnx
      rw [← hmd] at hm24 Hnx ⊢
      have hixk := fun W => hixL k W hlt
      clear hxd hmd
      go_wp2_with (first | (go_at_call 81; refine (OrderOf_grp _ _ _ (hg1 _ hE) (Hgr)).mono ?_; rintro e w' ⟨rfl, hE'⟩; replace hE := hE.trans hE'; clear hE'))
      go_loopw [24, 5] (fun d s wq => ∃ t : Nat, t ≤ ord l ∧ d = .int .i64 t ∧ s = .int .i64 (lpD l n x m t) ∧ Ext w1 wq) (fun d _ _ => ord l - (intOf d).toNat)
      case atStart => exact ⟨0, by omega, rfl, rfl, hE⟩
      case round =>
        clear hE hck hbx
        rename World => wq
        obtain ⟨t, ht, rfl, rfl, hE⟩ := hrel
        have hbx := hb1 _ hE
        have hM24 := lpD_le l n x m hm24 t
        by_cases hlt2 : t < ord l
        · have hlt2I : (t : Int) < (ord l : Int) := by omega
          have Hnd := Lib.hid (lpD_succ l n x m t)
          obtain ⟨M, hMd⟩ : ∃ M, M = lpD l n x m t := ⟨_, rfl⟩
          rw [← hMd] at hM24 Hnd ⊢
          have Hp1 : Hid (addF l x t = ptF l x t 1) := Lib.hid rfl
          clear hMd
          go_wp2_with (first | (go_at_call 140; with_reducible refine Calls.mono (add_any _ _ _ _ _ (hg1 _ hE) Hgr (by omega) (by omega)) ?_; rw [Hp1.out]; rintro e w' ⟨rfl, hE'⟩; replace hE := hE.trans hE'; clear hE'))
          go_loopw [9, 10] (fun sc sy wz => ∃ j : Nat, 1 ≤ j ∧ sc = .int .i64 j ∧ sy = .int .i64 (ptF l x t j) ∧ Ext w1 wz ∧ Hid (Run l n x t j)) (fun sc _ _ => 25 - (intOf sc).toNat)
          case atStart => exact ⟨1, by omega, rfl, rfl, hE, Lib.hid (Run.one l n x t)⟩
          case round =>
            clear hE hbx
            rename World => wz
            obtain ⟨j, hj1, rfl, rfl, hE, HR⟩ := hrel
            have hbx := hb1 _ hE
            have hj24 := Run.le Hgr.out hxo HR.out
            have hyo := ptF_lt (d := t) Hgr.out hxo j
            have Hst := Lib.hid (fun h => runL_at Hgr.out hxo hj1 HR.out h)
            have Hnx2 := Lib.hid (fun h1 h2 => HR.out.next h1 h2)
            have Hp2 : Hid (addF l (ptF l x t j) t = ptF l x t (j + 1)) := Lib.hid rfl
            obtain ⟨y, hyd⟩ : ∃ y, y = ptF l x t j := ⟨_, rfl⟩
            rw [← hyd] at hyo Hst Hnx2 Hp2 ⊢
            clear hyd
            by_cases hyx : y = x
            · have hq : ((y : Int) != (x : Int)) = false := by simp [hyx]
              have Hr := Lib.hid (Hst.out (Or.inl hyx))
              clear hyx
              go_wp2_with fail
              go_roundw
              case rel => exact ⟨t + 1, by omega, by go_num, by rw [Hnd.out, Hr.out]; congr 1; split <;> omega, hE⟩
              case measure => (simp [intOf]; omega)
            · have hq : ((y : Int) != (x : Int)) = true := by simp; omega
              cases hbit : n.testBit y
              · have Hr := Lib.hid (Hst.out (Or.inr hbit))
                go_wp2_with (first | (go_at_call 61; refine (in_val n y h2 (by omega) _ hbit).mono ?_; rintro e w' ⟨rfl, rfl⟩))
                go_roundw
                case rel => exact ⟨t + 1, by omega, by go_num, by rw [Hnd.out, Hr.out]; congr 1; split <;> omega, hE⟩
                case measure => (simp [intOf]; omega)
              · have Hn := Lib.hid (Hnx2.out hyx hbit)
                go_wp2_with (first | (go_at_call 61; refine (in_val n y h2 (by omega) _ hbit).mono ?_; rintro e w' ⟨rfl, rfl⟩) | (go_at_call 140; with_reducible refine Calls.mono (add_any _ _ _ _ _ (hg1 _ hE) Hgr (by omega) (by omega)) ?_; rw [Hp2.out]; rintro e w' ⟨rfl, hE'⟩; replace hE := hE.trans hE'; clear hE'))
                go_roundw
                case rel => exact ⟨j + 1, by omega, by go_num, rfl, hE, Hn⟩
                case measure => (simp [intOf]; omega)
        · have hlt2I : ¬ (t : Int) < (ord l : Int) := by omega
          have hto : t = ord l := by omega
          subst hto
          go_wp2_with fail
          go_roundw
          case rel => exact ⟨k + 1, by omega, by go_num, by rw [Hnx.out], hE⟩
          case measure => (simp [intOf]; omega)
    · have hltI : ¬ (k : Int) < (L.length : Int) := by omega
      have hkl : k = L.length := by omega
      subst hkl
      go_wp2_with fail
      go_ret
      exact ⟨ret_int (by first | rw [Hfin.out] | rw [Hfin.out, List.take_length]), eW.trans hE⟩
end Go.Zz

/- The longest progression in a set: the reference. -/
namespace Go.Zz
open Go.RowKit Go.Proofs
set_option maxHeartbeats 2000000
set_option maxRecDepth 8000

theorem bit_one {a n : Nat} (ha : a < 2 ^ 24) (hb : a.testBit n = true) : iand ((shr a n : Nat) : Int) 1 = 1 := by
  have h1 := shr_le a n
  rw [iand_one (by omega)]
  have : a.testBit n = decide (shr a n % 2 = 1) := by rw [Nat.testBit_eq_decide_div_mod_eq, ← Nat.shiftRight_eq_div_pow]; rfl
  rw [hb] at this
  have h2 := of_decide_eq_true this.symm
  rw [h2]; rfl
theorem bit_none {a n : Nat} (ha : a < 2 ^ 24) (hb : a.testBit n = false) : iand ((shr a n : Nat) : Int) 1 = 0 := by
  have h1 := shr_le a n
  rw [iand_one (by omega)]
  have : a.testBit n = decide (shr a n % 2 = 1) := by rw [Nat.testBit_eq_decide_div_mod_eq, ← Nat.shiftRight_eq_div_pow]; rfl
  rw [hb] at this
  have h2 := of_decide_eq_false this.symm
  have : shr a n % 2 = 0 := by omega
  rw [this]; rfl
theorem sLongestProgression_yes (v : Value) (l : List Int) (n : Nat) (w : World) (h : Ints w v l) (hs : isSetB l (n : Int) = true) :
    Calls Try.prog 101 #[.agg #[v], .int .i64 n] w fun e w' => e = .returned (.int .i64 (lpF l n)) ∧ Ext w w' := by
  obtain ⟨wb, hwb⟩ : ∃ wb, wb = w.alloc (.cells #[v] 26) := ⟨_, rfl⟩
  have hE0 := (Ext.refl w).alloc (.cells #[v] 26)
  have hb := box_cell w v 26
  rw [← hwb] at hE0 hb
  have hg : ∀ W, Ext wb W → Ints W v l := fun W hW => h.ext (hE0.trans hW)
  have hE := Ext.refl wb
  have Hsz : Hid (w.heap.size + 1 = wb.heap.size) := Lib.hid (by rw [hwb]; simp [go_sem])
  have Hwb := Lib.hid hwb
  clear hwb h
  have hbx := hb wb hE
  obtain ⟨h2, hgr⟩ := set_nat hs
  have hnl := set_lt hs
  have Hgr := Lib.hid hgr
  have hob := ord_bd hgr
  clear hgr
  go_enter Try.func101, Try.ntmps101
  go_wp2_with fail
  rw [← Hwb.out]
  go_wp2_with (first | (go_at_call 73; refine (sIsSet_val _ _ _ _ (hg _ hE) (hs)).mono ?_; rintro e w' ⟨rfl, hE'⟩; replace hE := hE.trans hE'; clear hE') | (go_at_call 137; refine (l3List_any n h2 _).mono ?_; rintro e w1 ⟨v1, rfl, hL, hE1⟩; obtain ⟨aoL, cL, adrL, rfl, hcap, hadrL, hcellL⟩ := hL.ints.natc; have hixL := ints_index (c := cL) elI szI hadrL))
  have hb1 : ∀ W, Ext w1 W → W.cell? ⟨w.heap.size, 0, none⟩ = some v := fun W hW => hb W (hE.trans (hE1.trans hW))
  have hg1 : ∀ W, Ext w1 W → Ints W v l := fun W hW => hg W (hE.trans (hE1.trans hW))
  have eW := hE0.trans (hE.trans hE1)
  have Hall : Hid (∀ y ∈ elems n, y < ord l ∧ n.testBit y = true) := Lib.hid fun y hy => ⟨el_ord hnl hy, (mem_elems.1 hy).2⟩
  have Hfin : Hid (lpF l n = lpX l n (elems n)) := Lib.hid rfl
  clear hb hg hbx hE hE1 hL hs hnl
  have hlen := elems_len n
  generalize elems n = L at hcellL hixL Hall hlen hcap hadrL Hfin ⊢
  have HcL := Lib.hid hcellL
  clear hadrL hcap hcellL
  have hE := Ext.refl w1
  go_loopw [7, 5] (fun i s wr => ∃ k : Nat, k ≤ L.length ∧ i = .int .i64 k ∧ s = .int .i64 (lpX l n (L.take k)) ∧ Ext w1 wr) (fun i _ _ => L.length - (intOf i).toNat)
  case atStart => exact ⟨0, by omega, rfl, rfl, hE⟩
  case round =>
    clear hE
    rename World => wr
    obtain ⟨k, hk, rfl, rfl, hE⟩ := hrel
    have hm24 := lpX_le l n L k
    by_cases hlt : k < L.length
    · have hltI : (k : Int) < (L.length : Int) := by omega
      obtain ⟨hxo, hxb⟩ := Hall.out _ (nthN_mem hlt)
      have Hnx := Lib.hid (lpX_take (l := l) (a := n) hlt)
      have HcK := Lib.hid (fun W hW => HcL.out k W hlt hW)
      obtain ⟨x, hxd⟩ : ∃ x, x = nthN L k := ⟨_, rfl⟩
      obtain ⟨m, hmd⟩ : ∃ x, x = lpX l n (L.take k) := ⟨_, rfl⟩
      rw [← hxd] at HcK hxo hxb Hnx
      rw [← hmd] at hm24 Hnx ⊢
      have hixk := fun W => hixL k W hlt
      have Hxb := Lib.hid hxb
      clear hxd hmd hxb
      go_wp2_with fail
      go_loopw [8, 5] (fun d s wq => ∃ t : Nat, t ≤ ord l ∧ d = .int .i64 t ∧ s = .int .i64 (lpD l n x m t) ∧ Ext w1 wq) (fun d _ _ => ord l - (intOf d).toNat)
      case atStart => exact ⟨0, by omega, rfl, rfl, hE⟩
      case round =>
        clear hE
        rename World => wq
        obtain ⟨t, ht, rfl, rfl, hE⟩ := hrel
        have hbx := hb1 _ hE
        have hM24 := lpD_le l n x m hm24 t
        by_cases hlt2 : t < ord l
        · have hlt2I : (t : Int) < (ord l : Int) := by omega
          have Hnd := Lib.hid (lpD_succ l n x m t)
          obtain ⟨M, hMd⟩ : ∃ M, M = lpD l n x m t := ⟨_, rfl⟩
          rw [← hMd] at hM24 Hnd ⊢
          clear hMd
          go_wp2_with (go_at_call 84; refine (l2Order_any _ _ _ (hg1 _ hE) Hgr).mono ?_; rintro e w3 ⟨rfl, hE3⟩; have hE4 := hE.trans hE3; have hck := HcK.out _ hE4)
          go_loopw [9, 10, 11] (fun sc ss sy wz => ∃ j : Nat, sc = .int .i64 j ∧ ss = .int .i64 (seenN l x t j) ∧ sy = .int .i64 (ptF l x t j) ∧ Ext w1 wz ∧ Hid (Run l n x t j)) (fun sc _ _ _ => 25 - (intOf sc).toNat)
          case atStart => exact ⟨0, rfl, rfl, rfl, hE4, Lib.hid fun i h1 h2 => by omega⟩
          case round =>
            clear hE hbx hE3 hE4 hck
            rename World => wz
            obtain ⟨j, rfl, rfl, rfl, hE, HR⟩ := hrel
            have hbx := hb1 _ hE
            have hj24 := Run.le Hgr.out hxo HR.out
            have hyo := ptF_lt (d := t) Hgr.out hxo j
            have hS24 := seenN_lt (d := t) Hgr.out hxo j
            have hS25 := seenN_lt (d := t) Hgr.out hxo (j + 1)
            have Hp2 : Hid (addF l (ptF l x t j) t = ptF l x t (j + 1)) := Lib.hid rfl
            have Hs2 : Hid (seenN l x t j ||| 2 ^ ptF l x t j = seenN l x t (j + 1)) := Lib.hid rfl
            obtain ⟨y, hyd⟩ : ∃ y, y = ptF l x t j := ⟨_, rfl⟩
            obtain ⟨S, hSd⟩ : ∃ S, S = seenN l x t j := ⟨_, rfl⟩
            rw [← hyd] at hyo Hp2 Hs2 ⊢
            rw [← hSd] at hS24 Hs2 ⊢
            have Hyd := Lib.hid hyd
            have HSd := Lib.hid hSd
            clear hyd hSd
            have hsh1 := ishr_nat (a := n) (n := y) (by omega)
            cases hbit : n.testBit y
            · have hj1 : 1 ≤ j := Nat.pos_of_ne_zero fun e => by
                subst e
                have h1 : y = x := Hyd.out
                rw [h1, Hxb.out] at hbit; cases hbit
              have Hr := Lib.hid (runL_at Hgr.out hxo hj1 HR.out (Or.inr (by rw [← Hyd.out]; exact hbit)))
              have hb0 := bit_none h2 hbit
              clear hbit
              go_wp2_with fail
              go_roundw
              case rel => exact ⟨t + 1, by omega, by go_num, by rw [Hnd.out, Hr.out]; congr 1; split <;> omega, hE⟩
              case measure => (simp [intOf]; omega)
            · have hb0 := bit_one h2 hbit
              have hsh2 := ishr_nat (a := S) (n := y) (by omega)
              cases hsb : S.testBit y
              · have hb1' := bit_none hS24 hsb
                have hs1 := ishl_one (n := y) (by omega)
                have hs2 := ior_pw (z := y) hS24 (by omega)
                rw [Hs2.out] at hs2
                have Hn : Hid (Run l n x t (j + 1)) := Lib.hid (by
                  by_cases e : j = 0
                  · subst e; exact Run.one l n x t
                  · exact HR.out.next (seen_new (by omega) (by rw [← Hyd.out, ← HSd.out]; exact hsb)) (by rw [← Hyd.out]; exact hbit))
                obtain ⟨S2, hS2⟩ : ∃ S2, S2 = seenN l x t (j + 1) := ⟨_, rfl⟩
                rw [← hS2] at hs2 hS25
                have HS2 := Lib.hid hS2
                clear hbit hsb hS2
                go_wp2_with (first | (go_at_call 138; with_reducible refine Calls.mono (l2Add_any _ _ _ _ _ (hg1 _ hE) Hgr (by omega) (by omega)) ?_; rw [Hp2.out]; rintro e w' ⟨rfl, hE'⟩; replace hE := hE.trans hE'; clear hE'))
                go_roundw
                case rel => exact ⟨j + 1, by go_num, by rw [HS2.out], rfl, hE, Hn⟩
                case measure => (simp [intOf]; omega)
              · have hb1' := bit_one hS24 hsb
                have hj1 : 1 ≤ j := Nat.pos_of_ne_zero fun e => by
                  subst e
                  have h1 : S = 0 := HSd.out
                  rw [h1] at hsb; simp at hsb
                have Hr := Lib.hid (runL_at Hgr.out hxo hj1 HR.out (Or.inl (seen_stop Hgr.out hxo hj1 HR.out (by rw [← Hyd.out, ← HSd.out]; exact hsb))))
                clear hbit hsb
                go_wp2_with fail
                go_roundw
                case rel => exact ⟨t + 1, by omega, by go_num, by rw [Hnd.out, Hr.out]; congr 1; split <;> omega, hE⟩
                case measure => (simp [intOf]; omega)
        · have hlt2I : ¬ (t : Int) < (ord l : Int) := by omega
          have hto : t = ord l := by omega
          subst hto
          go_wp2_with (go_at_call 84; refine (l2Order_any _ _ _ (hg1 _ hE) Hgr).mono ?_; rintro e w3 ⟨rfl, hE3⟩; have hE4 := hE.trans hE3)
          go_roundw
          case rel => exact ⟨k + 1, by omega, by go_num, by rw [Hnx.out], hE4⟩
          case measure => (simp [intOf]; omega)
    · have hltI : ¬ (k : Int) < (L.length : Int) := by omega
      have hkl : k = L.length := by omega
      subst hkl
      go_wp2_with fail
      go_ret
      exact ⟨ret_int (by first | rw [Hfin.out] | rw [Hfin.out, List.take_length]), eW.trans hE⟩
end Go.Zz

/- No triple in progression: the reference. Sizes of texts. -/
namespace Go.Zz
open Go.RowKit Go.Proofs
set_option maxHeartbeats 2000000
set_option maxRecDepth 8000

theorem fsF9_size (l : List Int) (a : Int) : (fsF l a).size ≤ 560 := by
  cases h : isSetB l a
  · rw [fsF_no h]; decide
  · obtain ⟨n, rfl, -, hn, -⟩ := isSetB_nat h
    rw [fsF_nat h]
    exact numF9_size (fun i hi => by have := elems_in n i hi; omega) (by rw [castL_len]; have := elems_len n; omega)
theorem stF_size (l : List Int) (a : Int) : (stF l a).size ≤ 20 := by
  unfold stF
  (repeat' split) <;> decide
theorem grow_in (l : List Int) (n : Nat) : (∀ i, i < (castL (growL l n 4)).length → -9 ≤ nth (castL (growL l n 4)) i ∧ nth (castL (growL l n 4)) i < 1000000000000) ∧ (castL (growL l n 4)).length ≤ 40 := by
  refine ⟨fun i hi => ?_, by rw [castL_len, growL_len]; omega⟩
  rw [castL_len, growL_len] at hi
  rw [nth_castL]
  have e : nthN (growL l n 4) i = cnt (mulS l n (i + 1)) := by simp [growL, nthN, List.getD, hi]
  rw [e]
  have := cnt_le (mulS l n (i + 1))
  omega
theorem lpF_le (l : List Int) (n : Nat) : lpF l n ≤ 24 := by
  have := lpX_le l n (elems n) (elems n).length
  rw [List.take_length] at this
  exact this
theorem sIsApFree_any (v : Value) (l : List Int) (a : Int) (w : World) (h : Ints w v l) :
    Calls Try.prog 105 #[.agg #[v], .int .i64 a] w fun e w' => e = .returned (.bool (apB l a)) ∧ Ext w w' := by
  obtain ⟨wb, hwb⟩ : ∃ wb, wb = w.alloc (.cells #[v] 26) := ⟨_, rfl⟩
  have hE0 := (Ext.refl w).alloc (.cells #[v] 26)
  have hb := box_cell w v 26
  rw [← hwb] at hE0 hb
  have hg : ∀ W, Ext wb W → Ints W v l := fun W hW => h.ext (hE0.trans hW)
  have hE := Ext.refl wb
  have Hsz : Hid (w.heap.size + 1 = wb.heap.size) := Lib.hid (by rw [hwb]; simp [go_sem])
  have Hwb := Lib.hid hwb
  clear hwb h
  have hbx := hb wb hE
  have cT := sTriplesIn_any v l a wb (hg wb hE)
  go_enter Try.func105, Try.ntmps105
  go_wp2_with fail
  rw [← Hwb.out]
  go_wp2_with (go_at_call 156; refine cT.mono ?_; rintro e w3 ⟨⟨z, rfl, hz, -⟩, hE3⟩)
  go_ret
  exact ⟨ret_bool rfl, hE0.trans hE3⟩
end Go.Zz

/- Regions that draw their order, walked by hand: an operation is taken first, be its guard on or off. -/
namespace Go.Zz
open Go

theorem takeOn {P : Program} {ops : Array Oper} {Q : Exit → Act → World → Prop} {md : Region.Mode} {S : World → Prop} {i : Nat} {oi : Oper} {v : Value} {fuel : Nat} {listed : Array Bool} {a : Act} {w : World}
    (hr : (Region.ready md ops listed).contains i = true) (hi : ops[i]? = some oi) (hw : Region.wanted oi (yielded ops a.tmps) = true) (hf : Region.free md ops listed i = true) (hs : Region.noSelect ops = true)
    (hQ : ∀ c a w, Q (.panic c) (a.put oi.dst v) w → Q (.panic c) a w) (hy : ∀ w, S w → (execOp a.eval oi).run P w = .ok (.value v) w) (hS : S w)
    (h : wpAnyH P md ops Q S fuel (listed.setIfInBounds i true) (a.put oi.dst v) w) : wpAnyH P md ops Q S (fuel + 1) listed a w :=
  wpAnyH_take hi hs hf hr hQ (Or.inl ⟨hw, hy⟩) hS h
theorem takeOff {P : Program} {ops : Array Oper} {Q : Exit → Act → World → Prop} {md : Region.Mode} {S : World → Prop} {i : Nat} {oi : Oper} {fuel : Nat} {listed : Array Bool} {a : Act} {w : World}
    (hr : (Region.ready md ops listed).contains i = true) (hi : ops[i]? = some oi) (hw : Region.wanted oi (yielded ops a.tmps) = false) (hf : Region.free md ops listed i = true) (hs : Region.noSelect ops = true)
    (hQ : ∀ c a w, Q (.panic c) (a.put oi.dst undef) w → Q (.panic c) a w) (hS : S w)
    (h : wpAnyH P md ops Q S fuel (listed.setIfInBounds i true) (a.put oi.dst undef) w) : wpAnyH P md ops Q S (fuel + 1) listed a w :=
  wpAnyH_take hi hs hf hr hQ (Or.inr ⟨hw, rfl⟩) hS h
/-- one operation alone may come up -/
theorem takeOne {P : Program} {ops : Array Oper} {Q : Exit → Act → World → Prop} {md : Region.Mode} {S : World → Prop} {i : Nat} {oi : Oper} {fuel : Nat} {listed : Array Bool} {a : Act} {w : World}
    (hr : Region.ready md ops listed = [i]) (hi : ops[i]? = some oi) (hw : Region.wanted oi (yielded ops a.tmps) = true)
    (h : ∀ K' : Act → World → Prop, Shut (∀ a w, S w → (S w → wpAnyH P md ops Q S fuel (listed.setIfInBounds i true) a w) → K' a w) → Oper.wp P oi a w K' Q) : wpAnyH P md ops Q S (fuel + 1) listed a w :=
  wpAnyH_ready hr (by simp) (AllReadyH.cons hi (fun K hK => by rw [if_pos hw]; exact h K hK) AllReadyH.nil)
end Go.Zz
