/- Extremal sums: the sets of a size, the greatest and the least double. -/
import Derived.Test.YtgjomoedgmofbaaC17
namespace Go.Zz
open Go.RowKit Go.Proofs
set_option maxHeartbeats 400000

/-- the sets with 0 of n elements among the first j odd numbers -/
def oddTo (n j : Nat) : List Nat := ((List.range j).map (fun i => 2 * i + 1)).filter (fun a => decide (cnt a = n))
def halfN (l : List Int) : Nat := pw (ord l - 1)
theorem oddTo_zero (n : Nat) : oddTo n 0 = [] := rfl
theorem oddTo_yes {n j : Nat} (h : cnt (2 * j + 1) = n) : oddTo n (j + 1) = oddTo n j ++ [2 * j + 1] := by
  unfold oddTo; rw [List.range_succ, List.map_append, List.filter_append]; simp [h]
theorem oddTo_no {n j : Nat} (h : ¬ cnt (2 * j + 1) = n) : oddTo n (j + 1) = oddTo n j := by
  unfold oddTo; rw [List.range_succ, List.map_append, List.filter_append]; simp [h]
theorem oddTo_len (n j : Nat) : (oddTo n j).length ≤ j := by
  unfold oddTo; refine Nat.le_trans (List.length_filter_le _ _) (by simp)
theorem oddTo_mem {n j a : Nat} (h : a ∈ oddTo n j) : a < 2 * j ∧ 0 < a := by
  unfold oddTo at h
  obtain ⟨h1, _⟩ := List.mem_filter.1 h
  obtain ⟨i, hi, rfl⟩ := List.mem_map.1 h1
  have := List.mem_range.1 hi
  omega
theorem halfN_two {l : List Int} (h : isGrp l = true) : 2 * halfN l = if ord l = 1 then 2 else pw (ord l) := by
  have h1 := (ord_bd h).1
  unfold halfN pw
  by_cases e : ord l = 1
  · rw [if_pos e, e]
  · rw [if_neg e]
    obtain ⟨m, hm⟩ : ∃ m, ord l = m + 1 := ⟨ord l - 1, by omega⟩
    rw [hm, Nat.add_sub_cancel, Nat.pow_succ]; omega
/-- the odd numbers below 2 ^ order -/
theorem halfN_lt {l : List Int} (h : isGrp l = true) (j : Nat) : 2 * j + 1 < pw (ord l) ↔ j < halfN l := by
  have h1 := (ord_bd h).1
  obtain ⟨m, hm⟩ : ∃ m, ord l = m + 1 := ⟨ord l - 1, by omega⟩
  unfold halfN pw
  rw [hm, Nat.add_sub_cancel, Nat.pow_succ]; omega
theorem halfN_bd {l : List Int} (h : isGrp l = true) : halfN l ≤ 8388608 := by
  unfold halfN pw
  exact Nat.le_trans (Nat.pow_le_pow_right (n := 2) (by omega) (show ord l - 1 ≤ 23 by have := (ord_bd h).2; omega)) (by decide)
theorem oddTo_bd {l : List Int} (h : isGrp l = true) {n a : Nat} (ha : a ∈ oddTo n (halfN l)) : a < 2 ^ 24 := by
  have := (oddTo_mem ha).1; have := halfN_bd h; omega

theorem sized_any (v : Value) (l : List Int) (n : Nat) (w : World) (h : Ints w v l) (Hgr : Hid (isGrp l = true)) :
    Calls Try.prog 111 #[.agg #[v], .int .i64 n] w fun e w' => ∃ u, e = .returned u ∧ Own 3 w w' u (castL (oddTo n (halfN l))) ∧ Ext w w' := by
  obtain ⟨wb, hwb⟩ : ∃ wb, wb = w.alloc (.cells #[v] 26) := ⟨_, rfl⟩
  have hE0 := (Ext.refl w).alloc (.cells #[v] 26)
  have hb := box_cell w v 26
  rw [← hwb] at hE0 hb
  have hg : ∀ W, Ext wb W → Ints W v l := fun W hW => h.ext (hE0.trans hW)
  have hE := Ext.refl wb
  have Hsz : Hid (w.heap.size + 1 = wb.heap.size) := Lib.hid (by rw [hwb]; simp [go_sem])
  have Hwb := Lib.hid hwb
  clear hwb h
  obtain ⟨wc, hwc⟩ : ∃ wc, wc = wb.alloc (.cells #[] 3) := ⟨_, rfl⟩
  have hO : Own 3 wb wc (.slice (some ⟨wb.heap.size, 0, none⟩) 0 0) [] := by rw [hwc]; exact own_made (by omega) hE [] rfl
  replace hE : Ext wb wc := by rw [hwc]; exact hE.alloc _
  have Hsz2 : Hid (wb.heap.size + 1 = wc.heap.size) := Lib.hid (by rw [hwc]; simp [go_sem])
  have Hwc := Lib.hid hwc
  clear hwc
  have hhb := halfN_bd Hgr.out
  have hob := ord_bd Hgr.out
  have hp2 := pw_le hob.2
  have hfl : Hid ((fullN l : Int) = (pw (ord l) : Int) - 1) := Lib.hid (by unfold fullN; have := pw_pos (ord l); omega)
  go_enter Try.func111, Try.ntmps111
  go_wp2_with fail
  rw [← Hwb.out, ← Hwc.out]; rw [Hsz.out]; try rw [Hsz2.out]
  go_loopw [5, 6] (fun u x wr => ∃ j : Nat, j ≤ halfN l ∧ x = .int .i64 (2 * (j : Int) + 1) ∧ Own 3 wb wr u (castL (oddTo n j)) ∧ Ext wb wr) (fun _ x _ => halfN l * 2 + 1 - (intOf x).toNat)
  case atStart => exact ⟨0, by omega, rfl, hO, hE⟩
  case round =>
    clear hE hO
    obtain ⟨j, hj, rfl, hO, hE⟩ := hrel
    have hbx := hb _ hE
    by_cases hlt : j < halfN l
    · have hx := (halfN_lt Hgr.out j).2 hlt
      have hle : 2 * (j : Int) + 1 ≤ (fullN l : Int) := by rw [hfl.out]; omega
      have hc24 : 2 * j + 1 < 2 ^ 24 := by omega
      have hln : (castL (oddTo n j)).length ≤ 8388608 := by rw [castL_len]; have := oddTo_len n j; omega
      have Hcst : Hid ((2 * (j : Int) + 1) = ((2 * j + 1 : Nat) : Int)) := Lib.hid (by push_cast; rfl)
      by_cases hq : cnt (2 * j + 1) = n
      · have Hn := Lib.hid (oddTo_yes hq)
        go_wp2_with (first | (go_at_call 155; refine (FullSet_grp _ _ _ (hg _ hE) (Hgr)).mono ?_; rintro e w' ⟨rfl, hE'⟩; replace hO := hO.ext (Ext.trans (by repeat (first | assumption | exact Ext.refl _ | (apply And.left; assumption) | apply Ext.drew | apply Ext.alloc)) hE'); replace hE := hE.trans (Ext.trans (by repeat (first | assumption | exact Ext.refl _ | (apply And.left; assumption) | apply Ext.drew | apply Ext.alloc)) hE'); clear hE') | (go_at_call 112; rw [Hcst.out]; refine (bits_any _ hc24 _).mono ?_; rintro e w' ⟨rfl, rfl⟩; rw [hq]) | (at_builtin; refine wp_append1 slI rfl _ _ rfl wb _ _ _ _ hO hE (by omega) rfl rfl ?_; intro v1 w1 hO1 hE1))
        go_roundw
        case rel => exact ⟨j + 1, by omega, by go_num, by rw [Hn.out]; simpa [castL_snoc] using hO1, hE1⟩
        case measure => (simp [intOf]; omega)
      · have Hn := Lib.hid (oddTo_no hq)
        have hq' : ((cnt (2 * j + 1) : Int) == (n : Int)) = false := by simp; omega
        clear hq
        go_wp2_with (first | (go_at_call 155; refine (FullSet_grp _ _ _ (hg _ hE) (Hgr)).mono ?_; rintro e w' ⟨rfl, hE'⟩; replace hO := hO.ext (Ext.trans (by repeat (first | assumption | exact Ext.refl _ | (apply And.left; assumption) | apply Ext.drew | apply Ext.alloc)) hE'); replace hE := hE.trans (Ext.trans (by repeat (first | assumption | exact Ext.refl _ | (apply And.left; assumption) | apply Ext.drew | apply Ext.alloc)) hE'); clear hE') | (go_at_call 112; rw [Hcst.out]; refine (bits_any _ hc24 _).mono ?_; rintro e w' ⟨rfl, rfl⟩))
        go_roundw
        case rel => exact ⟨j + 1, by omega, by go_num, by rw [Hn.out]; exact hO, hE⟩
        case measure => (simp [intOf]; omega)
    · have hjl : j = halfN l := by omega
      subst hjl
      have hgt : ¬ 2 * (halfN l : Int) + 1 ≤ (fullN l : Int) := by rw [hfl.out]; have := (halfN_lt Hgr.out (halfN l)); omega
      go_wp2_with (first | (go_at_call 155; refine (FullSet_grp _ _ _ (hg _ hE) (Hgr)).mono ?_; rintro e w' ⟨rfl, hE'⟩; replace hO := hO.ext (Ext.trans (by repeat (first | assumption | exact Ext.refl _ | (apply And.left; assumption) | apply Ext.drew | apply Ext.alloc)) hE'); replace hE := hE.trans (Ext.trans (by repeat (first | assumption | exact Ext.refl _ | (apply And.left; assumption) | apply Ext.drew | apply Ext.alloc)) hE'); clear hE'))
      go_ret
      exact ⟨_, rfl, hO.mono hE0, hE0.trans hE⟩

/-- arguments that the extremal doubles take -/
def dblB (l : List Int) (n : Int) : Bool := isGrp l && decide (ord l ≤ 12) && inB n 1 (ord l)
theorem dblB_grp {l : List Int} {n : Int} (h : isGrp l = false) : dblB l n = false := by unfold dblB; rw [h]; rfl
theorem dblB_ord {l : List Int} {n : Int} (h : ¬ ord l ≤ 12) : dblB l n = false := by unfold dblB; simp [h]
theorem dblB_n {l : List Int} {n : Int} (h : inB n 1 (ord l) = false) : dblB l n = false := by unfold dblB; rw [h]; simp
theorem dblB_yes {l : List Int} {n : Int} (h : isGrp l = true) (h2 : ord l ≤ 12) (h3 : inB n 1 (ord l) = true) : dblB l n = true := by unfold dblB; rw [h, h3]; simp [h2]
/-- the size of a + a -/
def dblC (l : List Int) (a : Nat) : Nat := cnt (sumF l a a)
def mdF (l : List Int) (L : List Nat) : Int := L.foldl (fun b a => if b < (dblC l a : Int) then (dblC l a : Int) else b) 0
theorem mdF_nil (l : List Int) : mdF l [] = 0 := rfl
theorem mdF_snoc (l : List Int) (L : List Nat) (a : Nat) : mdF l (L ++ [a]) = if mdF l L < (dblC l a : Int) then (dblC l a : Int) else mdF l L := by unfold mdF; rw [List.foldl_append]; rfl
def mostF (l : List Int) (n : Int) : Int := if dblB l n then mdF l (oddTo n.toNat (halfN l)) else -1
theorem mostF_no {l : List Int} {n : Int} (h : dblB l n = false) : mostF l n = -1 := by unfold mostF; rw [h]; rfl
theorem mostF_yes {l : List Int} {n : Nat} (h : dblB l n = true) : mostF l n = mdF l (oddTo n (halfN l)) := by unfold mostF; rw [if_pos h]; rfl
theorem in_nat {n : Int} {o : Nat} (h : inB n 1 o = true) : ∃ m : Nat, n = m ∧ 1 ≤ m ∧ m ≤ o := by
  obtain ⟨h1, h2⟩ := inB_t.1 h
  exact ⟨n.toNat, by omega, by omega, by omega⟩

theorem MostDouble_any (v : Value) (l : List Int) (n : Int) (w : World) (h : Ints w v l) :
    Calls Try.prog 23 #[.agg #[v], .int .i64 n] w fun e w' => e = .returned (.int .i64 (mostF l n)) ∧ Ext w w' := by
  obtain ⟨wb, hwb⟩ : ∃ wb, wb = w.alloc (.cells #[v] 26) := ⟨_, rfl⟩
  have hE0 := (Ext.refl w).alloc (.cells #[v] 26)
  have hb := box_cell w v 26
  rw [← hwb] at hE0 hb
  have hg : ∀ W, Ext wb W → Ints W v l := fun W hW => h.ext (hE0.trans hW)
  have hE := Ext.refl wb
  have Hsz : Hid (w.heap.size + 1 = wb.heap.size) := Lib.hid (by rw [hwb]; simp [go_sem])
  have Hwb := Lib.hid hwb
  clear hwb h
  have hbx := hb wb hE
  cases hgr : isGrp l
  · have Hs := Lib.hid (dblB_grp (n := n) hgr)
    go_enter Try.func23, Try.ntmps23
    go_wp2_with fail
    rw [← Hwb.out]
    go_wp2_with (first | (go_at_call 109; refine (IsGroup_any _ _ _ (hg _ hE)).mono ?_; rintro e w' ⟨rfl, hE'⟩; replace hE := hE.trans hE'; clear hE'))
    go_ret; exact ⟨ret_int (mostF_no Hs.out).symm, hE0.trans hE⟩
  · have Hgr := Lib.hid hgr
    have hob := ord_bd hgr
    by_cases h12 : ord l ≤ 12
    · have h12i : decide (12 < (ord l : Int)) = false := by simp; omega
      cases hin : inB n 1 (ord l)
      · have Hs := Lib.hid (dblB_n hin)
        go_enter Try.func23, Try.ntmps23
        go_wp2_with fail
        rw [← Hwb.out]
        go_wp2_with (first | (go_at_call 109; refine (IsGroup_any _ _ _ (hg _ hE)).mono ?_; rintro e w' ⟨rfl, hE'⟩; replace hE := hE.trans hE'; clear hE') | (go_at_call 108; refine (OrderOf_grp _ _ _ (hg _ hE) (Hgr)).mono ?_; rintro e w' ⟨rfl, hE'⟩; replace hE := hE.trans hE'; clear hE') | (go_at_call 110; refine (within_any _ _ _ _).mono ?_; rintro e w' ⟨rfl, rfl⟩))
        go_ret; exact ⟨ret_int (mostF_no Hs.out).symm, hE0.trans hE⟩
      · have Hs := Lib.hid (dblB_yes hgr h12 hin)
        obtain ⟨m, rfl, hm1, hm2⟩ := in_nat hin
        go_enter Try.func23, Try.ntmps23
        go_wp2_with fail
        rw [← Hwb.out]
        go_wp2_with (first | (go_at_call 109; refine (IsGroup_any _ _ _ (hg _ hE)).mono ?_; rintro e w' ⟨rfl, hE'⟩; replace hE := hE.trans hE'; clear hE') | (go_at_call 108; refine (OrderOf_grp _ _ _ (hg _ hE) (Hgr)).mono ?_; rintro e w' ⟨rfl, hE'⟩; replace hE := hE.trans hE'; clear hE') | (go_at_call 110; refine (within_any _ _ _ _).mono ?_; rintro e w' ⟨rfl, rfl⟩))
        clear hbx hin hgr
        have Hr := Lib.hid (mostF_yes Hs.out)
        go_wp2_with (first | (go_at_call 111; refine (sized_any _ _ m _ (hg _ hE) Hgr).mono ?_; rintro e w1 ⟨v1, rfl, hL, hE1⟩; replace hE := hE.trans hE1; obtain ⟨aoL, cL, adrL, rfl, hadrL, hcellL⟩ := hL.ints.nats; have hixL := ints_index (c := cL) elI szI hadrL; clear hadrL))
        have hb1 : ∀ W, Ext w1 W → W.cell? ⟨w.heap.size, 0, none⟩ = some v := fun W hW => hb W (hE.trans hW)
        have hg1 : ∀ W, Ext w1 W → Ints W v l := fun W hW => hg W (hE.trans hW)
        replace hE0 := hE0.trans hE
        replace hE := Ext.refl w1
        clear hb hg hL hE1
        have hall : ∀ y ∈ oddTo m (halfN l), y < 2 ^ 24 := fun y hy => oddTo_bd Hgr.out hy
        have hlen : (oddTo m (halfN l)).length ≤ 8388608 := Nat.le_trans (oddTo_len _ _) (halfN_bd Hgr.out)
        generalize oddTo m (halfN l) = L at hcellL hixL hall hlen Hr ⊢
        go_loopw [5, 27] (fun bv i wr => ∃ k : Nat, k ≤ L.length ∧ i = .int .i64 k ∧ bv = .int .i64 (mdF l (L.take k)) ∧ Ext w1 wr) (fun _ i _ => L.length - (intOf i).toNat)
        case atStart => exact ⟨0, by omega, rfl, rfl, hE⟩
        case round =>
          clear hE
          obtain ⟨k, hk, rfl, rfl, hE⟩ := hrel
          by_cases hlt : k < L.length
          · have hck := hcellL k _ hlt hE
            have hbx := hb1 _ hE
            have hby := hall _ (nthN_mem hlt)
            have Ht := Lib.hid (mdF_snoc l (L.take k) (nthN L k))
            have Ht2 := Lib.hid (take_nthN L k hlt)
            have hs := sumF_bd Hgr.out (nthN L k) (nthN L k)
            go_wp2_with (first | (go_at_call 113; refine (sum_any _ _ _ _ _ (hg1 _ hE) (Hgr) (hby) (hby)).mono ?_; rintro e w' ⟨rfl, hE'⟩; replace hE := hE.trans hE'; clear hE') | (go_at_call 112; refine (bits_any _ (hs) _).mono ?_; rintro e w' ⟨rfl, rfl⟩))
            go_roundw
            case rel => exact ⟨k + 1, by omega, by go_num, by rw [Ht2.out, Ht.out]; rfl, hE⟩
            case measure => (simp [intOf]; omega)
          · have hkl : k = L.length := by omega
            subst hkl
            go_wp2_with fail
            go_ret
            exact ⟨ret_int (by rw [List.take_length, Hr.out]), hE0.trans hE⟩
    · have Hs := Lib.hid (dblB_ord (n := n) h12)
      go_enter Try.func23, Try.ntmps23
      go_wp2_with fail
      rw [← Hwb.out]
      go_wp2_with (first | (go_at_call 109; refine (IsGroup_any _ _ _ (hg _ hE)).mono ?_; rintro e w' ⟨rfl, hE'⟩; replace hE := hE.trans hE'; clear hE') | (go_at_call 108; refine (OrderOf_grp _ _ _ (hg _ hE) (Hgr)).mono ?_; rintro e w' ⟨rfl, hE'⟩; replace hE := hE.trans hE'; clear hE'))
      go_ret; exact ⟨ret_int (mostF_no Hs.out).symm, hE0.trans hE⟩
theorem sMostDouble_any (v : Value) (l : List Int) (n : Int) (w : World) (h : Ints w v l) :
    Calls Try.prog 24 #[.agg #[v], .int .i64 n] w fun e w' => e = .returned (.int .i64 (mostF l n)) ∧ Ext w w' := by
  obtain ⟨wb, hwb⟩ : ∃ wb, wb = w.alloc (.cells #[v] 26) := ⟨_, rfl⟩
  have hE0 := (Ext.refl w).alloc (.cells #[v] 26)
  have hb := box_cell w v 26
  rw [← hwb] at hE0 hb
  have hg : ∀ W, Ext wb W → Ints W v l := fun W hW => h.ext (hE0.trans hW)
  have hE := Ext.refl wb
  have Hsz : Hid (w.heap.size + 1 = wb.heap.size) := Lib.hid (by rw [hwb]; simp [go_sem])
  have Hwb := Lib.hid hwb
  clear hwb h
  have hbx := hb wb hE
  cases hgr : isGrp l
  · have Hs := Lib.hid (dblB_grp (n := n) hgr)
    go_enter Try.func24, Try.ntmps24
    go_wp2_with fail
    rw [← Hwb.out]
    go_wp2_with (first | (go_at_call 114; refine (sIsGroup_any _ _ _ (hg _ hE)).mono ?_; rintro e w' ⟨rfl, hE'⟩; replace hE := hE.trans hE'; clear hE'))
    go_ret; exact ⟨ret_int (mostF_no Hs.out).symm, hE0.trans hE⟩
  · have Hgr := Lib.hid hgr
    have hob := ord_bd hgr
    by_cases h12 : ord l ≤ 12
    · have h12i : decide (12 < (ord l : Int)) = false := by simp; omega
      cases hin : inB n 1 (ord l)
      · have Hs := Lib.hid (dblB_n hin)
        go_enter Try.func24, Try.ntmps24
        go_wp2_with fail
        rw [← Hwb.out]
        go_wp2_with (first | (go_at_call 114; refine (sIsGroup_any _ _ _ (hg _ hE)).mono ?_; rintro e w' ⟨rfl, hE'⟩; replace hE := hE.trans hE'; clear hE') | (go_at_call 115; refine (l2Order_any _ _ _ (hg _ hE) (Hgr)).mono ?_; rintro e w' ⟨rfl, hE'⟩; replace hE := hE.trans hE'; clear hE') | (go_at_call 116; refine (l1In_any _ _ _ _).mono ?_; rintro e w' ⟨rfl, rfl⟩))
        go_ret; exact ⟨ret_int (mostF_no Hs.out).symm, hE0.trans hE⟩
      · have Hs := Lib.hid (dblB_yes hgr h12 hin)
        obtain ⟨m, rfl, hm1, hm2⟩ := in_nat hin
        go_enter Try.func24, Try.ntmps24
        go_wp2_with fail
        rw [← Hwb.out]
        go_wp2_with (first | (go_at_call 114; refine (sIsGroup_any _ _ _ (hg _ hE)).mono ?_; rintro e w' ⟨rfl, hE'⟩; replace hE := hE.trans hE'; clear hE') | (go_at_call 115; refine (l2Order_any _ _ _ (hg _ hE) (Hgr)).mono ?_; rintro e w' ⟨rfl, hE'⟩; replace hE := hE.trans hE'; clear hE') | (go_at_call 116; refine (l1In_any _ _ _ _).mono ?_; rintro e w' ⟨rfl, rfl⟩))
        clear hbx hin hgr
        have Hr := Lib.hid (mostF_yes Hs.out)
        have hhb := halfN_bd Hgr.out
        have hp2 := pw_le hob.2
        have hs0 := ishl_one (n := ord l) (by omega)
        go_loopw [5, 6] (fun bv i wr => ∃ j : Nat, j ≤ halfN l ∧ i = .int .i64 (2 * (j : Int) + 1) ∧ bv = .int .i64 (mdF l (oddTo m j)) ∧ Ext wb wr) (fun _ i _ => halfN l * 2 + 1 - (intOf i).toNat)
        case atStart => exact ⟨0, by omega, rfl, rfl, hE⟩
        case round =>
          clear hE
          obtain ⟨j, hj, rfl, rfl, hE⟩ := hrel
          have hbx := hb _ hE
          by_cases hlt : j < halfN l
          · have hx := (halfN_lt Hgr.out j).2 hlt
            have hle : 2 * (j : Int) + 1 < (pw (ord l) : Int) := by omega
            have hc24 : 2 * j + 1 < 2 ^ 24 := by omega
            have Hcst : Hid ((2 * (j : Int) + 1) = ((2 * j + 1 : Nat) : Int)) := Lib.hid (by push_cast; rfl)
            by_cases hq : cnt (2 * j + 1) = m
            · have Hn := Lib.hid (oddTo_yes hq)
              have Ht := Lib.hid (mdF_snoc l (oddTo m j) (2 * j + 1))
              have hs := sumF_bd Hgr.out (2 * j + 1) (2 * j + 1)
              go_wp2_with (first | (go_at_call 115; refine (l2Order_any _ _ _ (hg _ hE) (Hgr)).mono ?_; rintro e w' ⟨rfl, hE'⟩; replace hE := hE.trans hE'; clear hE') | (go_at_call 117; first | (with_reducible refine (l3Bits_any _ hs _).mono ?_; rintro e w' ⟨rfl, rfl⟩) | (rw [Hcst.out]; with_reducible refine (l3Bits_any _ hc24 _).mono ?_; rintro e w' ⟨rfl, rfl⟩; rw [hq])) | (go_at_call 118; rw [Hcst.out]; refine (l4Sum_any _ _ _ _ _ (hg _ hE) Hgr hc24 hc24).mono ?_; rintro e w' ⟨rfl, hE'⟩; replace hE := hE.trans hE'; clear hE'))
              go_roundw
              case rel => exact ⟨j + 1, by omega, by go_num, by rw [Hn.out, Ht.out]; rfl, hE⟩
              case measure => (simp [intOf]; omega)
            · have Hn := Lib.hid (oddTo_no hq)
              have hq' : ((cnt (2 * j + 1) : Int) == (m : Int)) = false := by simp; omega
              clear hq
              go_wp2_with (first | (go_at_call 115; refine (l2Order_any _ _ _ (hg _ hE) (Hgr)).mono ?_; rintro e w' ⟨rfl, hE'⟩; replace hE := hE.trans hE'; clear hE') | (go_at_call 117; rw [Hcst.out]; refine (l3Bits_any _ hc24 _).mono ?_; rintro e w' ⟨rfl, rfl⟩))
              go_roundw
              case rel => exact ⟨j + 1, by omega, by go_num, by rw [Hn.out], hE⟩
              case measure => (simp [intOf]; omega)
          · have hjl : j = halfN l := by omega
            subst hjl
            have hgt : ¬ 2 * (halfN l : Int) + 1 < (pw (ord l) : Int) := by have := (halfN_lt Hgr.out (halfN l)); omega
            go_wp2_with (first | (go_at_call 115; refine (l2Order_any _ _ _ (hg _ hE) (Hgr)).mono ?_; rintro e w' ⟨rfl, hE'⟩; replace hE := hE.trans hE'; clear hE'))
            go_ret
            exact ⟨ret_int (by rw [Hr.out]), hE0.trans hE⟩
    · have Hs := Lib.hid (dblB_ord (n := n) h12)
      go_enter Try.func24, Try.ntmps24
      go_wp2_with fail
      rw [← Hwb.out]
      go_wp2_with (first | (go_at_call 114; refine (sIsGroup_any _ _ _ (hg _ hE)).mono ?_; rintro e w' ⟨rfl, hE'⟩; replace hE := hE.trans hE'; clear hE') | (go_at_call 115; refine (l2Order_any _ _ _ (hg _ hE) (Hgr)).mono ?_; rintro e w' ⟨rfl, hE'⟩; replace hE := hE.trans hE'; clear hE'))
      go_ret; exact ⟨ret_int (mostF_no Hs.out).symm, hE0.trans hE⟩

/-- the first least double, with the size that it has, from a size on -/
def ldF (l : List Int) (M : Nat) (L : List Nat) : Nat × Nat := L.foldl (fun p a => if dblC l a < p.2 then (a, dblC l a) else p) (0, M)
theorem ldF_nil (l : List Int) (M : Nat) : ldF l M [] = (0, M) := rfl
theorem ldF_yes {l : List Int} {M : Nat} {L : List Nat} {a : Nat} (h : dblC l a < (ldF l M L).2) : ldF l M (L ++ [a]) = (a, dblC l a) := by
  unfold ldF at h ⊢; rw [List.foldl_append]; simp only [List.foldl_cons, List.foldl_nil]; rw [if_pos h]
theorem ldF_no {l : List Int} {M : Nat} {L : List Nat} {a : Nat} (h : ¬ dblC l a < (ldF l M L).2) : ldF l M (L ++ [a]) = ldF l M L := by
  unfold ldF at h ⊢; rw [List.foldl_append]; simp only [List.foldl_cons, List.foldl_nil]; rw [if_neg h]
theorem ldF_any (l : List Int) {M N : Nat} (hM : ∀ a, dblC l a < M) (hN : ∀ a, dblC l a < N) : ∀ L, (ldF l M L).1 = (ldF l N L).1
  | [] => rfl
  | a :: L => by unfold ldF; simp only [List.foldl_cons, hM a, hN a, if_true]
theorem ldF_le (l : List Int) (M : Nat) (L : List Nat) : (ldF l M L).2 ≤ M := by
  unfold ldF
  suffices h : ∀ (L : List Nat) (p : Nat × Nat), (L.foldl (fun p a => if dblC l a < p.2 then (a, dblC l a) else p) p).2 ≤ p.2 from h L (0, M)
  intro L
  induction L with
  | nil => intro p; exact Nat.le_refl _
  | cons a L ih =>
    intro p
    rw [List.foldl_cons]
    refine Nat.le_trans (ih _) ?_
    by_cases h : dblC l a < p.2
    · rw [if_pos h]; exact Nat.le_of_lt h
    · rw [if_neg h]; exact Nat.le_refl _
theorem dblC_le {l : List Int} (h : isGrp l = true) (a : Nat) : dblC l a ≤ ord l := by
  unfold dblC cnt elems
  have hb := sumF_lt (isGrp_ords h) a a
  have e : (List.range 24).filter (fun i => (sumF l a a).testBit i) = (List.range (ord l)).filter (fun i => (sumF l a a).testBit i) := (elemsTo_all (ord_bd h).2 hb).symm
  rw [e]; exact Nat.le_trans (List.length_filter_le _ _) (by simp)
def leastF (l : List Int) (n : Int) : Int := if dblB l n then ((ldF l 100 (oddTo n.toNat (halfN l))).1 : Int) else 0
theorem leastF_no {l : List Int} {n : Int} (h : dblB l n = false) : leastF l n = 0 := by unfold leastF; rw [h]; rfl
theorem leastF_yes {l : List Int} {n : Nat} (h : dblB l n = true) : leastF l n = ((ldF l 100 (oddTo n (halfN l))).1 : Int) := by unfold leastF; rw [if_pos h]; rfl
theorem LeastDouble_any (v : Value) (l : List Int) (n : Int) (w : World) (h : Ints w v l) :
    Calls Try.prog 21 #[.agg #[v], .int .i64 n] w fun e w' => e = .returned (.tuple #[.int .i64 (leastF l n), .bool (dblB l n)]) ∧ Ext w w' := by
  obtain ⟨wb, hwb⟩ : ∃ wb, wb = w.alloc (.cells #[v] 26) := ⟨_, rfl⟩
  have hE0 := (Ext.refl w).alloc (.cells #[v] 26)
  have hb := box_cell w v 26
  rw [← hwb] at hE0 hb
  have hg : ∀ W, Ext wb W → Ints W v l := fun W hW => h.ext (hE0.trans hW)
  have hE := Ext.refl wb
  have Hsz : Hid (w.heap.size + 1 = wb.heap.size) := Lib.hid (by rw [hwb]; simp [go_sem])
  have Hwb := Lib.hid hwb
  clear hwb h
  have hbx := hb wb hE
  cases hgr : isGrp l
  · have Hs := Lib.hid (dblB_grp (n := n) hgr)
    go_enter Try.func21, Try.ntmps21
    go_wp2_with fail
    rw [← Hwb.out]
    go_wp2_with (first | (go_at_call 109; refine (IsGroup_any _ _ _ (hg _ hE)).mono ?_; rintro e w' ⟨rfl, hE'⟩; replace hE := hE.trans hE'; clear hE'))
    refine bodyPost_ret (v := .tuple #[.int .i64 0, .bool false]) (by simp [results, Try.results21, go_sem]) rfl ⟨by rw [leastF_no Hs.out, Hs.out], hE0.trans hE⟩
  · have Hgr := Lib.hid hgr
    have hob := ord_bd hgr
    by_cases h12 : ord l ≤ 12
    · have h12i : decide (12 < (ord l : Int)) = false := by simp; omega
      cases hin : inB n 1 (ord l)
      · have Hs := Lib.hid (dblB_n hin)
        go_enter Try.func21, Try.ntmps21
        go_wp2_with fail
        rw [← Hwb.out]
        go_wp2_with (first | (go_at_call 109; refine (IsGroup_any _ _ _ (hg _ hE)).mono ?_; rintro e w' ⟨rfl, hE'⟩; replace hE := hE.trans hE'; clear hE') | (go_at_call 108; refine (OrderOf_grp _ _ _ (hg _ hE) (Hgr)).mono ?_; rintro e w' ⟨rfl, hE'⟩; replace hE := hE.trans hE'; clear hE') | (go_at_call 110; refine (within_any _ _ _ _).mono ?_; rintro e w' ⟨rfl, rfl⟩))
        refine bodyPost_ret (v := .tuple #[.int .i64 0, .bool false]) (by simp [results, Try.results21, go_sem]) rfl ⟨by rw [leastF_no Hs.out, Hs.out], hE0.trans hE⟩
      · have Hs := Lib.hid (dblB_yes hgr h12 hin)
        obtain ⟨m, rfl, hm1, hm2⟩ := in_nat hin
        go_enter Try.func21, Try.ntmps21
        go_wp2_with fail
        rw [← Hwb.out]
        go_wp2_with (first | (go_at_call 109; refine (IsGroup_any _ _ _ (hg _ hE)).mono ?_; rintro e w' ⟨rfl, hE'⟩; replace hE := hE.trans hE'; clear hE') | (go_at_call 108; refine (OrderOf_grp _ _ _ (hg _ hE) (Hgr)).mono ?_; rintro e w' ⟨rfl, hE'⟩; replace hE := hE.trans hE'; clear hE') | (go_at_call 110; refine (within_any _ _ _ _).mono ?_; rintro e w' ⟨rfl, rfl⟩))
        clear hbx hin hgr
        have Hr := Lib.hid (leastF_yes Hs.out)
        obtain ⟨M, hMd⟩ : ∃ M : Nat, M = ord l + 1 := ⟨_, rfl⟩
        have hM13 : M ≤ 13 := by omega
        have Hany := Lib.hid (ldF_any l (M := M) (N := 100) (fun a => by have := dblC_le Hgr.out a; omega) (fun a => by have := dblC_le Hgr.out a; omega) (oddTo m (halfN l)))
        have hM : Hid ((ord l : Int) + 1 = (M : Int)) := Lib.hid (by omega)
        clear hMd
        go_wp2_with (first | (go_at_call 108; refine (OrderOf_grp _ _ _ (hg _ hE) (Hgr)).mono ?_; rintro e w' ⟨rfl, hE'⟩; replace hE := hE.trans hE'; clear hE') | (go_at_call 111; refine (sized_any _ _ m _ (hg _ hE) Hgr).mono ?_; rintro e w1 ⟨v1, rfl, hL, hE1⟩; replace hE := hE.trans hE1; obtain ⟨aoL, cL, adrL, rfl, hadrL, hcellL⟩ := hL.ints.nats; have hixL := ints_index (c := cL) elI szI hadrL; clear hadrL))
        have hb1 : ∀ W, Ext w1 W → W.cell? ⟨w.heap.size, 0, none⟩ = some v := fun W hW => hb W (hE.trans hW)
        have hg1 : ∀ W, Ext w1 W → Ints W v l := fun W hW => hg W (hE.trans hW)
        replace hE0 := hE0.trans hE
        replace hE := Ext.refl w1
        clear hb hg hL hE1
        have hall : ∀ y ∈ oddTo m (halfN l), y < 2 ^ 24 := fun y hy => oddTo_bd Hgr.out hy
        have hlen : (oddTo m (halfN l)).length ≤ 8388608 := Nat.le_trans (oddTo_len _ _) (halfN_bd Hgr.out)
        generalize oddTo m (halfN l) = L at hcellL hixL hall hlen Hr Hany ⊢
        rw [hM.out]
        go_loopw [6, 7, 33] (fun xv bv i wr => ∃ k : Nat, k ≤ L.length ∧ i = .int .i64 k ∧ xv = .int .i64 ((ldF l M (L.take k)).1 : Int) ∧ bv = .int .i64 ((ldF l M (L.take k)).2 : Int) ∧ Ext w1 wr) (fun _ _ i _ => L.length - (intOf i).toNat)
        case atStart => exact ⟨0, by omega, rfl, rfl, rfl, hE⟩
        case round =>
          clear hE
          obtain ⟨k, hk, rfl, rfl, rfl, hE⟩ := hrel
          by_cases hlt : k < L.length
          · have hck := hcellL k _ hlt hE
            have hbx := hb1 _ hE
            have hby := hall _ (nthN_mem hlt)
            have Ht2 := Lib.hid (take_nthN L k hlt)
            have hs := sumF_bd Hgr.out (nthN L k) (nthN L k)
            have hle := ldF_le l M (L.take k)
            have hdc : Hid (cnt (sumF l (nthN L k) (nthN L k)) = dblC l (nthN L k)) := Lib.hid rfl
            by_cases hq : dblC l (nthN L k) < (ldF l M (L.take k)).2
            · have Ht := Lib.hid (ldF_yes hq)
              go_wp2_with (first | (go_at_call 113; refine (sum_any _ _ _ _ _ (hg1 _ hE) (Hgr) (hby) (hby)).mono ?_; rintro e w' ⟨rfl, hE'⟩; replace hE := hE.trans hE'; clear hE') | (go_at_call 112; refine (bits_any _ hs _).mono ?_; rintro e w' ⟨rfl, rfl⟩; rw [hdc.out]))
              go_roundw
              case rel => exact ⟨k + 1, by omega, by go_num, by rw [Ht2.out, Ht.out], by rw [Ht2.out, Ht.out], hE⟩
              case measure => (simp [intOf]; omega)
            · have Ht := Lib.hid (ldF_no hq)
              go_wp2_with (first | (go_at_call 113; refine (sum_any _ _ _ _ _ (hg1 _ hE) (Hgr) (hby) (hby)).mono ?_; rintro e w' ⟨rfl, hE'⟩; replace hE := hE.trans hE'; clear hE') | (go_at_call 112; refine (bits_any _ hs _).mono ?_; rintro e w' ⟨rfl, rfl⟩; rw [hdc.out]))
              go_roundw
              case rel => exact ⟨k + 1, by omega, by go_num, by rw [Ht2.out, Ht.out], by rw [Ht2.out, Ht.out], hE⟩
              case measure => (simp [intOf]; omega)
          · have hkl : k = L.length := by omega
            subst hkl
            go_wp2_with fail
            refine bodyPost_ret (v := .tuple #[.int .i64 ((ldF l M (L.take L.length)).1 : Int), .bool true]) (by simp [results, Try.results21, go_sem]) rfl ⟨by rw [Hr.out, Hs.out, List.take_length, Hany.out], hE0.trans hE⟩
    · have Hs := Lib.hid (dblB_ord (n := n) h12)
      go_enter Try.func21, Try.ntmps21
      go_wp2_with fail
      rw [← Hwb.out]
      go_wp2_with (first | (go_at_call 109; refine (IsGroup_any _ _ _ (hg _ hE)).mono ?_; rintro e w' ⟨rfl, hE'⟩; replace hE := hE.trans hE'; clear hE') | (go_at_call 108; refine (OrderOf_grp _ _ _ (hg _ hE) (Hgr)).mono ?_; rintro e w' ⟨rfl, hE'⟩; replace hE := hE.trans hE'; clear hE'))
      refine bodyPost_ret (v := .tuple #[.int .i64 0, .bool false]) (by simp [results, Try.results21, go_sem]) rfl ⟨by rw [leastF_no Hs.out, Hs.out], hE0.trans hE⟩
theorem sLeastDouble_any (v : Value) (l : List Int) (n : Int) (w : World) (h : Ints w v l) :
    Calls Try.prog 22 #[.agg #[v], .int .i64 n] w fun e w' => e = .returned (.tuple #[.int .i64 (leastF l n), .bool (dblB l n)]) ∧ Ext w w' := by
  obtain ⟨wb, hwb⟩ : ∃ wb, wb = w.alloc (.cells #[v] 26) := ⟨_, rfl⟩
  have hE0 := (Ext.refl w).alloc (.cells #[v] 26)
  have hb := box_cell w v 26
  rw [← hwb] at hE0 hb
  have hg : ∀ W, Ext wb W → Ints W v l := fun W hW => h.ext (hE0.trans hW)
  have hE := Ext.refl wb
  have Hsz : Hid (w.heap.size + 1 = wb.heap.size) := Lib.hid (by rw [hwb]; simp [go_sem])
  have Hwb := Lib.hid hwb
  clear hwb h
  have hbx := hb wb hE
  cases hgr : isGrp l
  · have Hs := Lib.hid (dblB_grp (n := n) hgr)
    go_enter Try.func22, Try.ntmps22
    go_wp2_with fail
    rw [← Hwb.out]
    go_wp2_with (first | (go_at_call 114; refine (sIsGroup_any _ _ _ (hg _ hE)).mono ?_; rintro e w' ⟨rfl, hE'⟩; replace hE := hE.trans hE'; clear hE'))
    refine bodyPost_ret (v := .tuple #[.int .i64 0, .bool false]) (by simp [results, Try.results22, go_sem]) rfl ⟨by rw [leastF_no Hs.out, Hs.out], hE0.trans hE⟩
  · have Hgr := Lib.hid hgr
    have hob := ord_bd hgr
    by_cases h12 : ord l ≤ 12
    · have h12i : decide (12 < (ord l : Int)) = false := by simp; omega
      cases hin : inB n 1 (ord l)
      · have Hs := Lib.hid (dblB_n hin)
        go_enter Try.func22, Try.ntmps22
        go_wp2_with fail
        rw [← Hwb.out]
        go_wp2_with (first | (go_at_call 114; refine (sIsGroup_any _ _ _ (hg _ hE)).mono ?_; rintro e w' ⟨rfl, hE'⟩; replace hE := hE.trans hE'; clear hE') | (go_at_call 115; refine (l2Order_any _ _ _ (hg _ hE) (Hgr)).mono ?_; rintro e w' ⟨rfl, hE'⟩; replace hE := hE.trans hE'; clear hE') | (go_at_call 116; refine (l1In_any _ _ _ _).mono ?_; rintro e w' ⟨rfl, rfl⟩))
        refine bodyPost_ret (v := .tuple #[.int .i64 0, .bool false]) (by simp [results, Try.results22, go_sem]) rfl ⟨by rw [leastF_no Hs.out, Hs.out], hE0.trans hE⟩
      · have Hs := Lib.hid (dblB_yes hgr h12 hin)
        obtain ⟨m, rfl, hm1, hm2⟩ := in_nat hin
        go_enter Try.func22, Try.ntmps22
        go_wp2_with fail
        rw [← Hwb.out]
        go_wp2_with (first | (go_at_call 114; refine (sIsGroup_any _ _ _ (hg _ hE)).mono ?_; rintro e w' ⟨rfl, hE'⟩; replace hE := hE.trans hE'; clear hE') | (go_at_call 115; refine (l2Order_any _ _ _ (hg _ hE) (Hgr)).mono ?_; rintro e w' ⟨rfl, hE'⟩; replace hE := hE.trans hE'; clear hE') | (go_at_call 116; refine (l1In_any _ _ _ _).mono ?_; rintro e w' ⟨rfl, rfl⟩))
        clear hbx hin hgr
        have Hr := Lib.hid (leastF_yes Hs.out)
        have hhb := halfN_bd Hgr.out
        have hp2 := pw_le hob.2
        have hs0 := ishl_one (n := ord l) (by omega)
        go_loopw [6, 7, 8] (fun xv bv i wr => ∃ j : Nat, j ≤ halfN l ∧ i = .int .i64 (2 * (j : Int) + 1) ∧ xv = .int .i64 ((ldF l 100 (oddTo m j)).1 : Int) ∧ bv = .int .i64 ((ldF l 100 (oddTo m j)).2 : Int) ∧ Ext wb wr) (fun _ _ i _ => halfN l * 2 + 1 - (intOf i).toNat)
        case atStart => exact ⟨0, by omega, rfl, rfl, rfl, hE⟩
        case round =>
          clear hE
          obtain ⟨j, hj, rfl, rfl, rfl, hE⟩ := hrel
          have hbx := hb _ hE
          by_cases hlt : j < halfN l
          · have hx := (halfN_lt Hgr.out j).2 hlt
            have hle : 2 * (j : Int) + 1 < (pw (ord l) : Int) := by omega
            have hc24 : 2 * j + 1 < 2 ^ 24 := by omega
            have Hcst : Hid ((2 * (j : Int) + 1) = ((2 * j + 1 : Nat) : Int)) := Lib.hid (by push_cast; rfl)
            by_cases hq : cnt (2 * j + 1) = m
            · have Hn := Lib.hid (oddTo_yes hq)
              have hs := sumF_bd Hgr.out (2 * j + 1) (2 * j + 1)
              have hle := ldF_le l 100 (oddTo m j)
              have hdc : Hid (cnt (sumF l (2 * j + 1) (2 * j + 1)) = dblC l (2 * j + 1)) := Lib.hid rfl
              by_cases hr : dblC l (2 * j + 1) < (ldF l 100 (oddTo m j)).2
              · have Ht := Lib.hid (ldF_yes hr)
                go_wp2_with (first | (go_at_call 115; refine (l2Order_any _ _ _ (hg _ hE) (Hgr)).mono ?_; rintro e w' ⟨rfl, hE'⟩; replace hE := hE.trans hE'; clear hE') | (go_at_call 117; first | (with_reducible refine (l3Bits_any _ hs _).mono ?_; rintro e w' ⟨rfl, rfl⟩; rw [hdc.out]) | (rw [Hcst.out]; with_reducible refine (l3Bits_any _ hc24 _).mono ?_; rintro e w' ⟨rfl, rfl⟩; rw [hq])) | (go_at_call 118; rw [Hcst.out]; refine (l4Sum_any _ _ _ _ _ (hg _ hE) Hgr hc24 hc24).mono ?_; rintro e w' ⟨rfl, hE'⟩; replace hE := hE.trans hE'; clear hE'))
                go_roundw
                case rel => exact ⟨j + 1, by omega, by go_num, by rw [Hn.out, Ht.out]; go_num, by rw [Hn.out, Ht.out], hE⟩
                case measure => (simp [intOf]; omega)
              · have Ht := Lib.hid (ldF_no hr)
                go_wp2_with (first | (go_at_call 115; refine (l2Order_any _ _ _ (hg _ hE) (Hgr)).mono ?_; rintro e w' ⟨rfl, hE'⟩; replace hE := hE.trans hE'; clear hE') | (go_at_call 117; first | (with_reducible refine (l3Bits_any _ hs _).mono ?_; rintro e w' ⟨rfl, rfl⟩; rw [hdc.out]) | (rw [Hcst.out]; with_reducible refine (l3Bits_any _ hc24 _).mono ?_; rintro e w' ⟨rfl, rfl⟩; rw [hq])) | (go_at_call 118; rw [Hcst.out]; refine (l4Sum_any _ _ _ _ _ (hg _ hE) Hgr hc24 hc24).mono ?_; rintro e w' ⟨rfl, hE'⟩; replace hE := hE.trans hE'; clear hE'))
                go_roundw
                case rel => exact ⟨j + 1, by omega, by go_num, by rw [Hn.out, Ht.out], by rw [Hn.out, Ht.out], hE⟩
                case measure => (simp [intOf]; omega)
            · have Hn := Lib.hid (oddTo_no hq)
              have hq' : ((cnt (2 * j + 1) : Int) != (m : Int)) = true := by simp; omega
              clear hq
              go_wp2_with (first | (go_at_call 115; refine (l2Order_any _ _ _ (hg _ hE) (Hgr)).mono ?_; rintro e w' ⟨rfl, hE'⟩; replace hE := hE.trans hE'; clear hE') | (go_at_call 117; rw [Hcst.out]; refine (l3Bits_any _ hc24 _).mono ?_; rintro e w' ⟨rfl, rfl⟩))
              go_roundw
              case rel => exact ⟨j + 1, by omega, by go_num, by rw [Hn.out], by rw [Hn.out], hE⟩
              case measure => (simp [intOf]; omega)
          · have hjl : j = halfN l := by omega
            subst hjl
            have hgt : ¬ 2 * (halfN l : Int) + 1 < (pw (ord l) : Int) := by have := (halfN_lt Hgr.out (halfN l)); omega
            go_wp2_with (first | (go_at_call 115; refine (l2Order_any _ _ _ (hg _ hE) (Hgr)).mono ?_; rintro e w' ⟨rfl, hE'⟩; replace hE := hE.trans hE'; clear hE'))
            refine bodyPost_ret (v := .tuple #[.int .i64 ((ldF l 100 (oddTo m (halfN l))).1 : Int), .bool true]) (by simp [results, Try.results22, go_sem]) rfl ⟨by rw [Hr.out, Hs.out], hE0.trans hE⟩
    · have Hs := Lib.hid (dblB_ord (n := n) h12)
      go_enter Try.func22, Try.ntmps22
      go_wp2_with fail
      rw [← Hwb.out]
      go_wp2_with (first | (go_at_call 114; refine (sIsGroup_any _ _ _ (hg _ hE)).mono ?_; rintro e w' ⟨rfl, hE'⟩; replace hE := hE.trans hE'; clear hE') | (go_at_call 115; refine (l2Order_any _ _ _ (hg _ hE) (Hgr)).mono ?_; rintro e w' ⟨rfl, hE'⟩; replace hE := hE.trans hE'; clear hE'))
      refine bodyPost_ret (v := .tuple #[.int .i64 0, .bool false]) (by simp [results, Try.results22, go_sem]) rfl ⟨by rw [leastF_no Hs.out, Hs.out], hE0.trans hE⟩
end Go.Zz
