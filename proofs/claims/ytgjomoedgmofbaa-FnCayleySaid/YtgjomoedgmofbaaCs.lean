/- Small functions that the laws call: sizes of sets, sums; equal lists, sums of lists, bytes by index. -/
import Derived.Test.YtgjomoedgmofbaaDr
import Derived.Test.YtgjomoedgmofbaaC14
import Derived.Test.YtgjomoedgmofbaaC16
import Derived.Test.YtgjomoedgmofbaaC22
namespace Go.Zz
open Go.RowKit Go.Proofs
set_option maxHeartbeats 2000000
set_option maxRecDepth 8000

theorem big_any (v : Value) (l : List Int) (w : World) (h : Byts w v l) :
    Calls Try.prog 10 #[v] w fun e w' => ∃ b, e = .returned (.bool b) ∧ Ext w w' := by
  obtain ⟨ao, c, rfl, -⟩ := h
  go_enter Try.func10, Try.ntmps10
  go_wp2_with fail
  go_ret
  exact ⟨_, rfl, Ext.refl _⟩
def csF (l : List Int) (a : Int) : Int := if isSetB l a then (cnt a.toNat : Int) else -1
theorem csF_no {l : List Int} {a : Int} (h : isSetB l a = false) : csF l a = -1 := by unfold csF; rw [h]; rfl
theorem csF_yes {l : List Int} {n : Nat} (h : isSetB l n = true) : csF l n = cnt n := by unfold csF; rw [if_pos h]; rfl
theorem sCountSet_any (v : Value) (l : List Int) (a : Int) (w : World) (h : Ints w v l) :
    Calls Try.prog 16 #[.agg #[v], .int .i64 a] w fun e w' => e = .returned (.int .i64 (csF l a)) ∧ Ext w w' := by
  have hE0 := (Ext.refl w).alloc (.cells #[v] 26)
  have hE := Ext.refl (w.alloc (.cells #[v] 26))
  have hb := box_cell w v 26
  have hg : ∀ W, Ext (w.alloc (.cells #[v] 26)) W → Ints W v l := fun W hW => h.ext (hE0.trans hW)
  clear h
  cases hs : isSetB l a
  · have Hs := Lib.hid hs
    go_enter Try.func16, Try.ntmps16
    go_wp2_with (first | (go_at_call 119; refine (sIsSet_any _ _ _ _ (hg _ hE)).mono ?_; rintro e w' ⟨rfl, hE'⟩; replace hE := hE.trans hE'; clear hE'))
    go_ret
    exact ⟨ret_int (csF_no Hs.out).symm, hE0.trans hE⟩
  · obtain ⟨n, rfl, h1, h2, h3⟩ := isSetB_nat hs
    have Hc := Lib.hid (csF_yes hs)
    go_enter Try.func16, Try.ntmps16
    go_wp2_with (first | (go_at_call 119; refine (sIsSet_any _ _ _ _ (hg _ hE)).mono ?_; rintro e w' ⟨rfl, hE'⟩; replace hE := hE.trans hE'; clear hE') | (go_at_call 117; refine (l3Bits_any _ (h2) _).mono ?_; rintro e w' ⟨rfl, rfl⟩))
    go_ret
    exact ⟨ret_int Hc.out.symm, hE0.trans hE⟩
def ssF (l : List Int) (a b : Int) : Int := if isSetB l a && isSetB l b then (sumF l a.toNat b.toNat : Int) else -1
theorem ssF_no {l : List Int} {a b : Int} (h : (isSetB l a && isSetB l b) = false) : ssF l a b = -1 := by unfold ssF; rw [h]; rfl
theorem ssF_yes {l : List Int} {m n : Nat} (h : (isSetB l m && isSetB l n) = true) : ssF l m n = sumF l m n := by unfold ssF; rw [if_pos h]; rfl
theorem sSumOfSets_any (v : Value) (l : List Int) (a b : Int) (w : World) (h : Ints w v l) :
    Calls Try.prog 17 #[.agg #[v], .int .i64 a, .int .i64 b] w fun e w' => e = .returned (.int .i64 (ssF l a b)) ∧ Ext w w' := by
  have hE0 := (Ext.refl w).alloc (.cells #[v] 26)
  have hE := Ext.refl (w.alloc (.cells #[v] 26))
  have hb := box_cell w v 26
  have hg : ∀ W, Ext (w.alloc (.cells #[v] 26)) W → Ints W v l := fun W hW => h.ext (hE0.trans hW)
  clear h
  cases ha : isSetB l a
  · have Hs := Lib.hid (ssF_no (l := l) (a := a) (b := b) (by rw [ha]; rfl))
    go_enter Try.func17, Try.ntmps17
    go_wp2_with (first | (go_at_call 119; refine (sIsSet_any _ _ _ _ (hg _ hE)).mono ?_; rintro e w' ⟨rfl, hE'⟩; replace hE := hE.trans hE'; clear hE'))
    go_ret
    exact ⟨ret_int Hs.out.symm, hE0.trans hE⟩
  · cases hb2 : isSetB l b
    · have Hs := Lib.hid (ssF_no (l := l) (a := a) (b := b) (by rw [ha, hb2]; rfl))
      go_enter Try.func17, Try.ntmps17
      go_wp2_with (first | (go_at_call 119; refine (sIsSet_any _ _ _ _ (hg _ hE)).mono ?_; rintro e w' ⟨rfl, hE'⟩; replace hE := hE.trans hE'; clear hE'))
      go_ret
      exact ⟨ret_int Hs.out.symm, hE0.trans hE⟩
    · obtain ⟨m, rfl, a1, a2, hgr⟩ := isSetB_nat ha
      obtain ⟨n, rfl, b1, b2, -⟩ := isSetB_nat hb2
      have Hs := Lib.hid (ssF_yes (l := l) (m := m) (n := n) (by rw [ha, hb2]; rfl))
      have Hgr := Lib.hid hgr
      go_enter Try.func17, Try.ntmps17
      go_wp2_with (first | (go_at_call 119; refine (sIsSet_any _ _ _ _ (hg _ hE)).mono ?_; rintro e w' ⟨rfl, hE'⟩; replace hE := hE.trans hE'; clear hE') | (go_at_call 118; refine (l4Sum_any _ _ _ _ _ (hg _ hE) (Hgr) (a2) (b2)).mono ?_; rintro e w' ⟨rfl, hE'⟩; replace hE := hE.trans hE'; clear hE'))
      go_ret
      exact ⟨ret_int Hs.out.symm, hE0.trans hE⟩
theorem sameInts_any (u v : Value) (l m : List Int) (w : World) (hu : Ints w u l) (hv : Ints w v m) :
    Calls Try.prog 28 #[u, v] w fun e w' => e = .returned (.bool (decide (l = m))) ∧ Ext w w' := by
  obtain ⟨ao, c, adr, rfl, hl, hadr, hcell⟩ := hu.op
  obtain ⟨bo, d, bdr, rfl, hm, hbdr, hdell⟩ := hv.op
  have hix := ints_index (c := c) elI szI hadr
  have hiy := ints_index (c := d) elI szI hbdr
  have Hc := Lib.hid hcell
  have Hd := Lib.hid hdell
  clear hadr hbdr hcell hdell hu hv
  by_cases hlen : l.length = m.length
  · have hq : (((l.length : Nat) : Int) != ((m.length : Nat) : Int)) = false := by rw [hlen]; simp
    have Hlen := Lib.hid hlen
    clear hlen
    go_enter Try.func28, Try.ntmps28
    go_wp2_with fail
    go_loopw [5] (fun si wr => ∃ k : Nat, k ≤ l.length ∧ si = .int .i64 k ∧ Ext w wr ∧ Hid (∀ j, j < k → nth l j = nth m j)) (fun si _ => l.length - (intOf si).toNat)
    case atStart => exact ⟨0, by omega, rfl, Ext.refl _, Lib.hid fun j hj => absurd hj (by omega)⟩
    case round =>
      rename World => wr
      obtain ⟨k, hk, rfl, hE0, H⟩ := hrel
      have HE0 := Lib.hid hE0
      clear hE0
      have hE := Ext.refl wr
      by_cases hlt : k < l.length
      · have hltI : (k : Int) < (l.length : Int) := by omega
        have hkm : k < m.length := by have := Hlen.out; omega
        have hckU := fun U => Hc.out k (Lat wr U) hlt (HE0.out.trans (lat_ext wr U))
        have hdkU := fun U => Hd.out k (Lat wr U) hkm (HE0.out.trans (lat_ext wr U))
        have hixk := hix k
        have hiyk := hiy k
        by_cases e : nth l k = nth m k
        · have hn : (nth l k != nth m k) = false := by rw [e]; simp
          have H2 : Hid (∀ j, j < k + 1 → nth l j = nth m j) := Lib.hid fun j hj => by by_cases q : j = k; (subst q; exact e); exact H.out j (by omega)
          clear e
          go_wp2_with fail
          (refine wp_region_lat (wr) (by kernel_rfl) (by kernel_rfl) hE ?_); (repeat (go_big_quiet_step (first | (fail "no call")))); (refine wpQuiet_nil ?_); (intro W hE'); (replace hE := lat_of hE'); (clear hE')
          go_wp2_with fail
          go_roundw
          case rel => exact ⟨k + 1, by omega, by go_num, HE0.out.trans hE, H2⟩
          case measure => (simp [intOf]; omega)
        · have hn : (nth l k != nth m k) = true := by rw [bne_iff_ne]; exact e
          have Hr : Hid (decide (l = m) = false) := Lib.hid (decide_eq_false fun q => e (by rw [q]))
          clear e
          go_wp2_with fail
          (refine wp_region_lat (wr) (by kernel_rfl) (by kernel_rfl) hE ?_); (repeat (go_big_quiet_step (first | (fail "no call")))); (refine wpQuiet_nil ?_); (intro W hE'); (replace hE := lat_of hE'); (clear hE')
          go_wp2_with fail
          go_ret
          exact ⟨ret_bool Hr.out.symm, HE0.out.trans hE⟩
      · have hltI : ¬ (k : Int) < (l.length : Int) := by omega
        have Hr : Hid (decide (l = m) = true) := Lib.hid (decide_eq_true (ext_nth Hlen.out fun i hi => H.out i (by omega)))
        go_wp2_with fail
        go_ret
        exact ⟨ret_bool Hr.out.symm, HE0.out⟩
  · have hq : (((l.length : Nat) : Int) != ((m.length : Nat) : Int)) = true := by rw [bne_iff_ne]; omega
    have Hr : Hid (decide (l = m) = false) := Lib.hid (decide_eq_false fun q => hlen (by rw [q]))
    clear hlen
    go_enter Try.func28, Try.ntmps28
    go_wp2_with fail
    go_ret
    exact ⟨ret_bool Hr.out.symm, Ext.refl _⟩
end Go.Zz
