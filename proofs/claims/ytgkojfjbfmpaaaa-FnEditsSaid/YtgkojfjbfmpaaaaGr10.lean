/- Fewest and most translates. -/
import Derived.Test.YtgkojfjbfmpaaaaGr9
namespace Go.Zz
open Go.RowKit Go.Proofs
set_option maxHeartbeats 400000

def trB (l : List Int) (a : Int) : Bool := isOneB l a && decide (ord l ≤ 10)
theorem trB_set {l : List Int} {a : Int} (h : isSetB l a = false) : trB l a = false := by unfold trB; rw [isOneB_no h]; rfl
theorem trB_zero (l : List Int) : trB l 0 = false := by unfold trB; rw [isOneB_zero]; rfl
theorem trB_ord {l : List Int} {a : Int} (h : ¬ ord l ≤ 10) : trB l a = false := by unfold trB; simp [h]
theorem trB_yes {l : List Int} {n : Nat} (h : isSetB l n = true) (h0 : 0 < n) (h2 : ord l ≤ 10) : trB l n = true := by unfold trB; rw [isOneB_yes h h0]; simp [h2]
/-- the first cover of fewest elements below k -/
def fewTo (l : List Int) (a : Int) : Nat → Nat
  | 0 => fullN l
  | k + 1 => if cnt k < cnt (fewTo l a k) ∧ covF l a k = true then k else fewTo l a k
theorem fewTo_yes {l : List Int} {a : Int} {k : Nat} (h : cnt k < cnt (fewTo l a k)) (h2 : covF l a k = true) : fewTo l a (k + 1) = k := by rw [fewTo, if_pos ⟨h, h2⟩]
theorem fewTo_no {l : List Int} {a : Int} {k : Nat} (h : ¬ cnt k < cnt (fewTo l a k)) : fewTo l a (k + 1) = fewTo l a k := by rw [fewTo, if_neg (fun e => h e.1)]
theorem fewTo_no' {l : List Int} {a : Int} {k : Nat} (h : covF l a k = false) : fewTo l a (k + 1) = fewTo l a k := by rw [fewTo, if_neg (fun e => by rw [h] at e; cases e.2)]
theorem fewTo_lt (l : List Int) (a : Int) : ∀ k, k ≤ pw (ord l) → fewTo l a k < pw (ord l)
  | 0, _ => fullN_lt l
  | k + 1, h => by
    rw [fewTo]; split
    · omega
    · exact fewTo_lt l a k (by omega)
theorem sumF_none (l : List Int) (a : Nat) : sumF l a 0 = 0 := by
  have e : elems 0 = [] := by decide
  unfold sumF; rw [e]
  have h : ∀ L : List Nat, L.flatMap (fun _ => ([] : List Nat)) = [] := fun L => by simp
  show bset ((elems a).flatMap (fun _ => [])) = 0
  rw [h]; rfl
theorem cov_none {l : List Int} (h : isGrp l = true) (a : Int) : covF l a 0 = false := by
  unfold covF
  have h1 : (sumF l a.toNat (0 : Int).toNat) = 0 := sumF_none l a.toNat
  rw [h1, fullF_n h]
  have h2 : 1 ≤ fullN l := by
    unfold fullN pw
    have : 2 ^ 1 ≤ 2 ^ ord l := Nat.pow_le_pow_right (by omega) (ord_bd h).1
    omega
  have h3 : decide (((0 : Nat) : Int) = (fullN l : Int)) = false := by simp; omega
  rw [h3]; simp
theorem fewTo_one {l : List Int} (h : isGrp l = true) (a : Int) : fewTo l a 1 = fullN l := fewTo_no' (k := 0) (cov_none h a)
/-- the first of most elements below k whose shifts do not meet -/
def mostTo (l : List Int) (a : Int) : Nat → Nat
  | 0 => 0
  | k + 1 => if cnt (mostTo l a k) < cnt k ∧ directF l a k = true then k else mostTo l a k
theorem mostTo_yes {l : List Int} {a : Int} {k : Nat} (h : cnt (mostTo l a k) < cnt k) (h2 : directF l a k = true) : mostTo l a (k + 1) = k := by rw [mostTo, if_pos ⟨h, h2⟩]
theorem mostTo_no {l : List Int} {a : Int} {k : Nat} (h : ¬ cnt (mostTo l a k) < cnt k) : mostTo l a (k + 1) = mostTo l a k := by rw [mostTo, if_neg (fun e => h e.1)]
theorem mostTo_no' {l : List Int} {a : Int} {k : Nat} (h : directF l a k = false) : mostTo l a (k + 1) = mostTo l a k := by rw [mostTo, if_neg (fun e => by rw [h] at e; cases e.2)]
theorem mostTo_lt (l : List Int) (a : Int) : ∀ k, k ≤ pw (ord l) → mostTo l a k < pw (ord l)
  | 0, _ => pw_pos _
  | k + 1, h => by
    rw [mostTo]; split
    · omega
    · exact mostTo_lt l a k (by omega)
theorem mostTo_one (l : List Int) (a : Int) : mostTo l a 1 = 0 := mostTo_no (k := 0) (by simp [mostTo])
def fewF (l : List Int) (a : Int) : Int := if trB l a then (fewTo l a (pw (ord l)) : Int) else 0
theorem fewF_no {l : List Int} {a : Int} (h : trB l a = false) : fewF l a = 0 := by unfold fewF; rw [h]; rfl
theorem fewF_yes {l : List Int} {a : Int} (h : trB l a = true) : fewF l a = (fewTo l a (pw (ord l)) : Int) := by unfold fewF; rw [if_pos h]
def mostTF (l : List Int) (a : Int) : Int := if trB l a then (mostTo l a (pw (ord l)) : Int) else 0
theorem mostTF_no {l : List Int} {a : Int} (h : trB l a = false) : mostTF l a = 0 := by unfold mostTF; rw [h]; rfl
theorem mostTF_yes {l : List Int} {a : Int} (h : trB l a = true) : mostTF l a = (mostTo l a (pw (ord l)) : Int) := by unfold mostTF; rw [if_pos h]

theorem FewestTranslates_any (v : Value) (l : List Int) (a : Int) (w : World) (h : Ints w v l) :
    Calls Try.prog 30 #[.agg #[v], .int .i64 a] w fun e w' => e = .returned (.tuple #[.int .i64 (fewF l a), .bool (trB l a)]) ∧ Ext w w' := by
  obtain ⟨wb, hwb⟩ : ∃ wb, wb = w.alloc (.cells #[v] 26) := ⟨_, rfl⟩
  have hE0 := (Ext.refl w).alloc (.cells #[v] 26)
  have hb := box_cell w v 26
  rw [← hwb] at hE0 hb
  have hg : ∀ W, Ext wb W → Ints W v l := fun W hW => h.ext (hE0.trans hW)
  have hE := Ext.refl wb
  have Hsz : Hid (w.heap.size + 1 = wb.heap.size) := Lib.hid (by rw [hwb]; simp [go_sem])
  have Hwb := Lib.hid hwb
  clear hwb h
  have hbx := hb wb hE
  cases hs : isSetB l a
  · have Hs := Lib.hid (trB_set hs)
    go_enter Try.func30, Try.ntmps30
    go_wp2_with fail
    rw [← Hwb.out]
    go_wp2_with (first | (go_at_call 66; refine (IsSet_any _ _ _ _ (hg _ hE)).mono ?_; rintro e w' ⟨rfl, hE'⟩; replace hE := hE.trans hE'; clear hE'))
    exact bodyPost_ret (v := .tuple #[.int .i64 0, .bool false]) (by simp [results, Try.results30, go_sem]) rfl ⟨by rw [fewF_no Hs.out, Hs.out], hE0.trans hE⟩
  · obtain ⟨n, rfl, h1, h2, hgr⟩ := isSetB_nat hs
    by_cases h0 : n = 0
    · subst h0
      have Hs := Lib.hid (trB_zero l)
      go_enter Try.func30, Try.ntmps30
      go_wp2_with fail
      rw [← Hwb.out]
      go_wp2_with (first | (go_at_call 66; refine (IsSet_any _ _ _ _ (hg _ hE)).mono ?_; rintro e w' ⟨rfl, hE'⟩; replace hE := hE.trans hE'; clear hE'))
      exact bodyPost_ret (v := .tuple #[.int .i64 0, .bool false]) (by simp [results, Try.results30, go_sem]) rfl ⟨by have h1 := Hs.out; have h2 := fewF_no Hs.out; simp_all, hE0.trans hE⟩
    · have h0' : ((n : Int) == 0) = false := by simp; omega
      have Hgr := Lib.hid hgr
      have hob := ord_bd hgr
      by_cases h10 : ord l ≤ 10
      · have h10i : decide (10 < (ord l : Int)) = false := by simp; omega
        have Hs := Lib.hid (trB_yes hs (by omega) h10)
        have Hr := Lib.hid (fewF_yes Hs.out)
        have hp2 := pw_le hob.2
        have hs0 := ishl_one (n := ord l) (by omega)
        have hP : Hid ((fullN l : Int) + 1 = (pw (ord l) : Int)) := Lib.hid (by unfold fullN; have := pw_pos (ord l); omega)
        have hfb : fullN l < 16777216 := by have := hP.out; omega
        have hP2 : Hid ((pw (ord l) : Int) - 1 = (fullN l : Int)) := Lib.hid (by have := hP.out; omega)
        clear hgr
        go_enter Try.func30, Try.ntmps30
        go_wp2_with fail
        rw [← Hwb.out]
        go_wp2_with (first | (go_at_call 66; refine (IsSet_any _ _ _ _ (hg _ hE)).mono ?_; rintro e w' ⟨rfl, hE'⟩; replace hE := hE.trans hE'; clear hE') | (go_at_call 81; refine (OrderOf_grp _ _ _ (hg _ hE) (Hgr)).mono ?_; rintro e w' ⟨rfl, hE'⟩; replace hE := hE.trans hE'; clear hE') | (go_at_call 82; refine (FullSet_grp _ _ _ (hg _ hE) (Hgr)).mono ?_; rintro e w' ⟨rfl, hE'⟩; replace hE := hE.trans hE'; clear hE'))
        rw [hP.out]
        clear hs h0 h0' hbx
        go_loopw [6, 26] (fun bv xv wr => ∃ k : Nat, 0 ≤ k ∧ k ≤ pw (ord l) ∧ xv = .int .i64 k ∧ bv = .int .i64 (fewTo l n k : Int) ∧ Ext wb wr) (fun _ x _ => pw (ord l) - (intOf x).toNat)
        case atStart => exact ⟨0, by omega, (by have := pw_pos (ord l); omega), rfl, (by rw [show fewTo l n 0 = fullN l from rfl]; try rfl), hE⟩
        case round =>
          clear hE
          obtain ⟨k, hk0, hk, rfl, rfl, hE⟩ := hrel
          have hbx := hb _ hE
          by_cases hlt : k < pw (ord l)
          · have hbl := fewTo_lt l n k hk
            have hle : (k:Int) < (pw (ord l):Int) := by have := hP.out; omega
            have hk24 : k < 2 ^ 24 := by omega
            have hb24 : fewTo l n k < 2 ^ 24 := by omega
            have c1 := cnt_le k
            have c2 := cnt_le (fewTo l n k)
            by_cases hq : cnt k < cnt (fewTo l n k)
            · have hqi : decide (cnt k < cnt (fewTo l n k)) = true := by simp [hq]
              cases ht : covF l n k
              · have Hn := Lib.hid (fewTo_no' ht)
                go_wp2_with (first | (fail) | (go_at_call 83; (first | (with_reducible refine (bits_any _ hk24 _).mono ?_) | (with_reducible refine (bits_any _ hb24 _).mono ?_)); rintro e w' ⟨rfl, rfl⟩) | (go_at_call 38; refine (IsCovering_any _ _ _ _ _ (hg _ hE)).mono ?_; rintro e w' ⟨rfl, hE'⟩; replace hE := hE.trans hE'; clear hE'))
                go_roundw
                case rel => exact ⟨k + 1, by omega, by omega, by go_num, by rw [Hn.out], hE⟩
                case measure => (simp [intOf]; omega)
              · have Hn := Lib.hid (fewTo_yes hq ht)
                go_wp2_with (first | (fail) | (go_at_call 83; (first | (with_reducible refine (bits_any _ hk24 _).mono ?_) | (with_reducible refine (bits_any _ hb24 _).mono ?_)); rintro e w' ⟨rfl, rfl⟩) | (go_at_call 38; refine (IsCovering_any _ _ _ _ _ (hg _ hE)).mono ?_; rintro e w' ⟨rfl, hE'⟩; replace hE := hE.trans hE'; clear hE'))
                go_roundw
                case rel => exact ⟨k + 1, by omega, by omega, by go_num, by rw [Hn.out], hE⟩
                case measure => (simp [intOf]; omega)
            · have Hn := Lib.hid (fewTo_no hq)
              go_wp2_with (first | (fail) | (go_at_call 83; (first | (with_reducible refine (bits_any _ hk24 _).mono ?_) | (with_reducible refine (bits_any _ hb24 _).mono ?_)); rintro e w' ⟨rfl, rfl⟩))
              go_roundw
              case rel => exact ⟨k + 1, by omega, by omega, by go_num, by rw [Hn.out], hE⟩
              case measure => (simp [intOf]; omega)
          · have hkl : k = pw (ord l) := by omega
            have hgt : ¬ ((k:Int) < (pw (ord l):Int)) := by have := hP.out; omega
            subst hkl
            go_wp2_with (first | (fail))
            exact bodyPost_ret (v := .tuple #[.int .i64 (fewTo l n (pw (ord l)) : Int), .bool true]) (by simp [results, Try.results30, go_sem]) rfl ⟨by rw [Hr.out, Hs.out], hE0.trans hE⟩
      · have h10i : decide (10 < (ord l : Int)) = true := by simp; omega
        have Hs := Lib.hid (trB_ord (a := n) h10)
        go_enter Try.func30, Try.ntmps30
        go_wp2_with fail
        rw [← Hwb.out]
        go_wp2_with (first | (go_at_call 66; refine (IsSet_any _ _ _ _ (hg _ hE)).mono ?_; rintro e w' ⟨rfl, hE'⟩; replace hE := hE.trans hE'; clear hE') | (go_at_call 81; refine (OrderOf_grp _ _ _ (hg _ hE) (Hgr)).mono ?_; rintro e w' ⟨rfl, hE'⟩; replace hE := hE.trans hE'; clear hE'))
        exact bodyPost_ret (v := .tuple #[.int .i64 0, .bool false]) (by simp [results, Try.results30, go_sem]) rfl ⟨by rw [fewF_no Hs.out, Hs.out], hE0.trans hE⟩
theorem sFewestTranslates_any (v : Value) (l : List Int) (a : Int) (w : World) (h : Ints w v l) :
    Calls Try.prog 31 #[.agg #[v], .int .i64 a] w fun e w' => e = .returned (.tuple #[.int .i64 (fewF l a), .bool (trB l a)]) ∧ Ext w w' := by
  obtain ⟨wb, hwb⟩ : ∃ wb, wb = w.alloc (.cells #[v] 26) := ⟨_, rfl⟩
  have hE0 := (Ext.refl w).alloc (.cells #[v] 26)
  have hb := box_cell w v 26
  rw [← hwb] at hE0 hb
  have hg : ∀ W, Ext wb W → Ints W v l := fun W hW => h.ext (hE0.trans hW)
  have hE := Ext.refl wb
  have Hsz : Hid (w.heap.size + 1 = wb.heap.size) := Lib.hid (by rw [hwb]; simp [go_sem])
  have Hwb := Lib.hid hwb
  clear hwb h
  have hbx := hb wb hE
  cases hs : isSetB l a
  · have Hs := Lib.hid (trB_set hs)
    go_enter Try.func31, Try.ntmps31
    go_wp2_with fail
    rw [← Hwb.out]
    go_wp2_with (first | (go_at_call 73; refine (sIsSet_any _ _ _ _ (hg _ hE)).mono ?_; rintro e w' ⟨rfl, hE'⟩; replace hE := hE.trans hE'; clear hE'))
    exact bodyPost_ret (v := .tuple #[.int .i64 0, .bool false]) (by simp [results, Try.results31, go_sem]) rfl ⟨by rw [fewF_no Hs.out, Hs.out], hE0.trans hE⟩
  · obtain ⟨n, rfl, h1, h2, hgr⟩ := isSetB_nat hs
    by_cases h0 : n = 0
    · subst h0
      have Hs := Lib.hid (trB_zero l)
      go_enter Try.func31, Try.ntmps31
      go_wp2_with fail
      rw [← Hwb.out]
      go_wp2_with (first | (go_at_call 73; refine (sIsSet_any _ _ _ _ (hg _ hE)).mono ?_; rintro e w' ⟨rfl, hE'⟩; replace hE := hE.trans hE'; clear hE'))
      exact bodyPost_ret (v := .tuple #[.int .i64 0, .bool false]) (by simp [results, Try.results31, go_sem]) rfl ⟨by have h1 := Hs.out; have h2 := fewF_no Hs.out; simp_all, hE0.trans hE⟩
    · have h0' : ((n : Int) == 0) = false := by simp; omega
      have Hgr := Lib.hid hgr
      have hob := ord_bd hgr
      by_cases h10 : ord l ≤ 10
      · have h10i : decide (10 < (ord l : Int)) = false := by simp; omega
        have Hs := Lib.hid (trB_yes hs (by omega) h10)
        have Hr := Lib.hid (fewF_yes Hs.out)
        have hp2 := pw_le hob.2
        have hs0 := ishl_one (n := ord l) (by omega)
        have hP : Hid ((fullN l : Int) + 1 = (pw (ord l) : Int)) := Lib.hid (by unfold fullN; have := pw_pos (ord l); omega)
        have hfb : fullN l < 16777216 := by have := hP.out; omega
        have hP2 : Hid ((pw (ord l) : Int) - 1 = (fullN l : Int)) := Lib.hid (by have := hP.out; omega)
        clear hgr
        go_enter Try.func31, Try.ntmps31
        go_wp2_with fail
        rw [← Hwb.out]
        go_wp2_with (first | (go_at_call 73; refine (sIsSet_any _ _ _ _ (hg _ hE)).mono ?_; rintro e w' ⟨rfl, hE'⟩; replace hE := hE.trans hE'; clear hE') | (go_at_call 84; refine (l2Order_any _ _ _ (hg _ hE) (Hgr)).mono ?_; rintro e w' ⟨rfl, hE'⟩; replace hE := hE.trans hE'; clear hE'))
        rw [hP2.out]
        clear hs h0 h0' hbx
        go_loopw [6, 7] (fun bv xv wr => ∃ k : Nat, 1 ≤ k ∧ k ≤ pw (ord l) ∧ xv = .int .i64 k ∧ bv = .int .i64 (fewTo l n k : Int) ∧ Ext wb wr) (fun _ x _ => pw (ord l) - (intOf x).toNat)
        case atStart => exact ⟨1, by omega, (by have := pw_pos (ord l); omega), rfl, (by rw [fewTo_one Hgr.out]; try rfl), hE⟩
        case round =>
          clear hE
          obtain ⟨k, hk0, hk, rfl, rfl, hE⟩ := hrel
          have hbx := hb _ hE
          by_cases hlt : k < pw (ord l)
          · have hbl := fewTo_lt l n k hk
            have hle : (k:Int) < (pw (ord l):Int) := by have := hP.out; omega
            have hk24 : k < 2 ^ 24 := by omega
            have hb24 : fewTo l n k < 2 ^ 24 := by omega
            have c1 := cnt_le k
            have c2 := cnt_le (fewTo l n k)
            by_cases hq : cnt k < cnt (fewTo l n k)
            · have hqi : decide (cnt k < cnt (fewTo l n k)) = true := by simp [hq]
              cases ht : covF l n k
              · have Hn := Lib.hid (fewTo_no' ht)
                go_wp2_with (first | (go_at_call 84; refine (l2Order_any _ _ _ (hg _ hE) (Hgr)).mono ?_; rintro e w' ⟨rfl, hE'⟩; replace hE := hE.trans hE'; clear hE') | (go_at_call 85; (first | (with_reducible refine (l3Bits_any _ hk24 _).mono ?_) | (with_reducible refine (l3Bits_any _ hb24 _).mono ?_)); rintro e w' ⟨rfl, rfl⟩) | (go_at_call 51; refine (sIsCovering_any _ _ _ _ _ (hg _ hE)).mono ?_; rintro e w' ⟨rfl, hE'⟩; replace hE := hE.trans hE'; clear hE'))
                go_roundw
                case rel => exact ⟨k + 1, by omega, by omega, by go_num, by rw [Hn.out], hE⟩
                case measure => (simp [intOf]; omega)
              · have Hn := Lib.hid (fewTo_yes hq ht)
                go_wp2_with (first | (go_at_call 84; refine (l2Order_any _ _ _ (hg _ hE) (Hgr)).mono ?_; rintro e w' ⟨rfl, hE'⟩; replace hE := hE.trans hE'; clear hE') | (go_at_call 85; (first | (with_reducible refine (l3Bits_any _ hk24 _).mono ?_) | (with_reducible refine (l3Bits_any _ hb24 _).mono ?_)); rintro e w' ⟨rfl, rfl⟩) | (go_at_call 51; refine (sIsCovering_any _ _ _ _ _ (hg _ hE)).mono ?_; rintro e w' ⟨rfl, hE'⟩; replace hE := hE.trans hE'; clear hE'))
                go_roundw
                case rel => exact ⟨k + 1, by omega, by omega, by go_num, by rw [Hn.out], hE⟩
                case measure => (simp [intOf]; omega)
            · have Hn := Lib.hid (fewTo_no hq)
              go_wp2_with (first | (go_at_call 84; refine (l2Order_any _ _ _ (hg _ hE) (Hgr)).mono ?_; rintro e w' ⟨rfl, hE'⟩; replace hE := hE.trans hE'; clear hE') | (go_at_call 85; (first | (with_reducible refine (l3Bits_any _ hk24 _).mono ?_) | (with_reducible refine (l3Bits_any _ hb24 _).mono ?_)); rintro e w' ⟨rfl, rfl⟩))
              go_roundw
              case rel => exact ⟨k + 1, by omega, by omega, by go_num, by rw [Hn.out], hE⟩
              case measure => (simp [intOf]; omega)
          · have hkl : k = pw (ord l) := by omega
            have hgt : ¬ ((k:Int) < (pw (ord l):Int)) := by have := hP.out; omega
            subst hkl
            go_wp2_with (first | (go_at_call 84; refine (l2Order_any _ _ _ (hg _ hE) (Hgr)).mono ?_; rintro e w' ⟨rfl, hE'⟩; replace hE := hE.trans hE'; clear hE'))
            exact bodyPost_ret (v := .tuple #[.int .i64 (fewTo l n (pw (ord l)) : Int), .bool true]) (by simp [results, Try.results31, go_sem]) rfl ⟨by rw [Hr.out, Hs.out], hE0.trans hE⟩
      · have h10i : decide (10 < (ord l : Int)) = true := by simp; omega
        have Hs := Lib.hid (trB_ord (a := n) h10)
        go_enter Try.func31, Try.ntmps31
        go_wp2_with fail
        rw [← Hwb.out]
        go_wp2_with (first | (go_at_call 73; refine (sIsSet_any _ _ _ _ (hg _ hE)).mono ?_; rintro e w' ⟨rfl, hE'⟩; replace hE := hE.trans hE'; clear hE') | (go_at_call 84; refine (l2Order_any _ _ _ (hg _ hE) (Hgr)).mono ?_; rintro e w' ⟨rfl, hE'⟩; replace hE := hE.trans hE'; clear hE'))
        exact bodyPost_ret (v := .tuple #[.int .i64 0, .bool false]) (by simp [results, Try.results31, go_sem]) rfl ⟨by rw [fewF_no Hs.out, Hs.out], hE0.trans hE⟩
theorem MostTranslates_any (v : Value) (l : List Int) (a : Int) (w : World) (h : Ints w v l) :
    Calls Try.prog 32 #[.agg #[v], .int .i64 a] w fun e w' => e = .returned (.tuple #[.int .i64 (mostTF l a), .bool (trB l a)]) ∧ Ext w w' := by
  obtain ⟨wb, hwb⟩ : ∃ wb, wb = w.alloc (.cells #[v] 26) := ⟨_, rfl⟩
  have hE0 := (Ext.refl w).alloc (.cells #[v] 26)
  have hb := box_cell w v 26
  rw [← hwb] at hE0 hb
  have hg : ∀ W, Ext wb W → Ints W v l := fun W hW => h.ext (hE0.trans hW)
  have hE := Ext.refl wb
  have Hsz : Hid (w.heap.size + 1 = wb.heap.size) := Lib.hid (by rw [hwb]; simp [go_sem])
  have Hwb := Lib.hid hwb
  clear hwb h
  have hbx := hb wb hE
  cases hs : isSetB l a
  · have Hs := Lib.hid (trB_set hs)
    go_enter Try.func32, Try.ntmps32
    go_wp2_with fail
    rw [← Hwb.out]
    go_wp2_with (first | (go_at_call 66; refine (IsSet_any _ _ _ _ (hg _ hE)).mono ?_; rintro e w' ⟨rfl, hE'⟩; replace hE := hE.trans hE'; clear hE'))
    exact bodyPost_ret (v := .tuple #[.int .i64 0, .bool false]) (by simp [results, Try.results32, go_sem]) rfl ⟨by rw [mostTF_no Hs.out, Hs.out], hE0.trans hE⟩
  · obtain ⟨n, rfl, h1, h2, hgr⟩ := isSetB_nat hs
    by_cases h0 : n = 0
    · subst h0
      have Hs := Lib.hid (trB_zero l)
      go_enter Try.func32, Try.ntmps32
      go_wp2_with fail
      rw [← Hwb.out]
      go_wp2_with (first | (go_at_call 66; refine (IsSet_any _ _ _ _ (hg _ hE)).mono ?_; rintro e w' ⟨rfl, hE'⟩; replace hE := hE.trans hE'; clear hE'))
      exact bodyPost_ret (v := .tuple #[.int .i64 0, .bool false]) (by simp [results, Try.results32, go_sem]) rfl ⟨by have h1 := Hs.out; have h2 := mostTF_no Hs.out; simp_all, hE0.trans hE⟩
    · have h0' : ((n : Int) == 0) = false := by simp; omega
      have Hgr := Lib.hid hgr
      have hob := ord_bd hgr
      by_cases h10 : ord l ≤ 10
      · have h10i : decide (10 < (ord l : Int)) = false := by simp; omega
        have Hs := Lib.hid (trB_yes hs (by omega) h10)
        have Hr := Lib.hid (mostTF_yes Hs.out)
        have hp2 := pw_le hob.2
        have hs0 := ishl_one (n := ord l) (by omega)
        have hP : Hid ((fullN l : Int) + 1 = (pw (ord l) : Int)) := Lib.hid (by unfold fullN; have := pw_pos (ord l); omega)
        have hfb : fullN l < 16777216 := by have := hP.out; omega
        have hP2 : Hid ((pw (ord l) : Int) - 1 = (fullN l : Int)) := Lib.hid (by have := hP.out; omega)
        clear hgr
        go_enter Try.func32, Try.ntmps32
        go_wp2_with fail
        rw [← Hwb.out]
        go_wp2_with (first | (go_at_call 66; refine (IsSet_any _ _ _ _ (hg _ hE)).mono ?_; rintro e w' ⟨rfl, hE'⟩; replace hE := hE.trans hE'; clear hE') | (go_at_call 81; refine (OrderOf_grp _ _ _ (hg _ hE) (Hgr)).mono ?_; rintro e w' ⟨rfl, hE'⟩; replace hE := hE.trans hE'; clear hE'))
        skip
        clear hs h0 h0' hbx
        go_loopw [6, 7] (fun bv xv wr => ∃ k : Nat, 1 ≤ k ∧ k ≤ pw (ord l) ∧ xv = .int .i64 k ∧ bv = .int .i64 (mostTo l n k : Int) ∧ Ext wb wr) (fun _ x _ => pw (ord l) - (intOf x).toNat)
        case atStart => exact ⟨1, by omega, (by have := pw_pos (ord l); omega), rfl, (by rw [mostTo_one]; try rfl), hE⟩
        case round =>
          clear hE
          obtain ⟨k, hk0, hk, rfl, rfl, hE⟩ := hrel
          have hbx := hb _ hE
          by_cases hlt : k < pw (ord l)
          · have hbl := mostTo_lt l n k hk
            have hle : (k:Int) ≤ (fullN l:Int) := by have := hP.out; omega
            have hk24 : k < 2 ^ 24 := by omega
            have hb24 : mostTo l n k < 2 ^ 24 := by omega
            have c1 := cnt_le k
            have c2 := cnt_le (mostTo l n k)
            by_cases hq : cnt (mostTo l n k) < cnt k
            · have hqi : decide (cnt (mostTo l n k) < cnt k) = true := by simp [hq]
              cases ht : directF l n k
              · have Hn := Lib.hid (mostTo_no' ht)
                go_wp2_with (first | (go_at_call 82; refine (FullSet_grp _ _ _ (hg _ hE) (Hgr)).mono ?_; rintro e w' ⟨rfl, hE'⟩; replace hE := hE.trans hE'; clear hE') | (go_at_call 83; (first | (with_reducible refine (bits_any _ hk24 _).mono ?_) | (with_reducible refine (bits_any _ hb24 _).mono ?_)); rintro e w' ⟨rfl, rfl⟩) | (go_at_call 39; refine (IsDirect_any _ _ _ _ _ (hg _ hE)).mono ?_; rintro e w' ⟨rfl, hE'⟩; replace hE := hE.trans hE'; clear hE'))
                go_roundw
                case rel => exact ⟨k + 1, by omega, by omega, by go_num, by rw [Hn.out], hE⟩
                case measure => (simp [intOf]; omega)
              · have Hn := Lib.hid (mostTo_yes hq ht)
                go_wp2_with (first | (go_at_call 82; refine (FullSet_grp _ _ _ (hg _ hE) (Hgr)).mono ?_; rintro e w' ⟨rfl, hE'⟩; replace hE := hE.trans hE'; clear hE') | (go_at_call 83; (first | (with_reducible refine (bits_any _ hk24 _).mono ?_) | (with_reducible refine (bits_any _ hb24 _).mono ?_)); rintro e w' ⟨rfl, rfl⟩) | (go_at_call 39; refine (IsDirect_any _ _ _ _ _ (hg _ hE)).mono ?_; rintro e w' ⟨rfl, hE'⟩; replace hE := hE.trans hE'; clear hE'))
                go_roundw
                case rel => exact ⟨k + 1, by omega, by omega, by go_num, by rw [Hn.out], hE⟩
                case measure => (simp [intOf]; omega)
            · have Hn := Lib.hid (mostTo_no hq)
              go_wp2_with (first | (go_at_call 82; refine (FullSet_grp _ _ _ (hg _ hE) (Hgr)).mono ?_; rintro e w' ⟨rfl, hE'⟩; replace hE := hE.trans hE'; clear hE') | (go_at_call 83; (first | (with_reducible refine (bits_any _ hk24 _).mono ?_) | (with_reducible refine (bits_any _ hb24 _).mono ?_)); rintro e w' ⟨rfl, rfl⟩))
              go_roundw
              case rel => exact ⟨k + 1, by omega, by omega, by go_num, by rw [Hn.out], hE⟩
              case measure => (simp [intOf]; omega)
          · have hkl : k = pw (ord l) := by omega
            have hgt : ¬ ((k:Int) ≤ (fullN l:Int)) := by have := hP.out; omega
            subst hkl
            go_wp2_with (first | (go_at_call 82; refine (FullSet_grp _ _ _ (hg _ hE) (Hgr)).mono ?_; rintro e w' ⟨rfl, hE'⟩; replace hE := hE.trans hE'; clear hE'))
            exact bodyPost_ret (v := .tuple #[.int .i64 (mostTo l n (pw (ord l)) : Int), .bool true]) (by simp [results, Try.results32, go_sem]) rfl ⟨by rw [Hr.out, Hs.out], hE0.trans hE⟩
      · have h10i : decide (10 < (ord l : Int)) = true := by simp; omega
        have Hs := Lib.hid (trB_ord (a := n) h10)
        go_enter Try.func32, Try.ntmps32
        go_wp2_with fail
        rw [← Hwb.out]
        go_wp2_with (first | (go_at_call 66; refine (IsSet_any _ _ _ _ (hg _ hE)).mono ?_; rintro e w' ⟨rfl, hE'⟩; replace hE := hE.trans hE'; clear hE') | (go_at_call 81; refine (OrderOf_grp _ _ _ (hg _ hE) (Hgr)).mono ?_; rintro e w' ⟨rfl, hE'⟩; replace hE := hE.trans hE'; clear hE'))
        exact bodyPost_ret (v := .tuple #[.int .i64 0, .bool false]) (by simp [results, Try.results32, go_sem]) rfl ⟨by rw [mostTF_no Hs.out, Hs.out], hE0.trans hE⟩
theorem sMostTranslates_any (v : Value) (l : List Int) (a : Int) (w : World) (h : Ints w v l) :
    Calls Try.prog 33 #[.agg #[v], .int .i64 a] w fun e w' => e = .returned (.tuple #[.int .i64 (mostTF l a), .bool (trB l a)]) ∧ Ext w w' := by
  obtain ⟨wb, hwb⟩ : ∃ wb, wb = w.alloc (.cells #[v] 26) := ⟨_, rfl⟩
  have hE0 := (Ext.refl w).alloc (.cells #[v] 26)
  have hb := box_cell w v 26
  rw [← hwb] at hE0 hb
  have hg : ∀ W, Ext wb W → Ints W v l := fun W hW => h.ext (hE0.trans hW)
  have hE := Ext.refl wb
  have Hsz : Hid (w.heap.size + 1 = wb.heap.size) := Lib.hid (by rw [hwb]; simp [go_sem])
  have Hwb := Lib.hid hwb
  clear hwb h
  have hbx := hb wb hE
  cases hs : isSetB l a
  · have Hs := Lib.hid (trB_set hs)
    go_enter Try.func33, Try.ntmps33
    go_wp2_with fail
    rw [← Hwb.out]
    go_wp2_with (first | (go_at_call 73; refine (sIsSet_any _ _ _ _ (hg _ hE)).mono ?_; rintro e w' ⟨rfl, hE'⟩; replace hE := hE.trans hE'; clear hE'))
    exact bodyPost_ret (v := .tuple #[.int .i64 0, .bool false]) (by simp [results, Try.results33, go_sem]) rfl ⟨by rw [mostTF_no Hs.out, Hs.out], hE0.trans hE⟩
  · obtain ⟨n, rfl, h1, h2, hgr⟩ := isSetB_nat hs
    by_cases h0 : n = 0
    · subst h0
      have Hs := Lib.hid (trB_zero l)
      go_enter Try.func33, Try.ntmps33
      go_wp2_with fail
      rw [← Hwb.out]
      go_wp2_with (first | (go_at_call 73; refine (sIsSet_any _ _ _ _ (hg _ hE)).mono ?_; rintro e w' ⟨rfl, hE'⟩; replace hE := hE.trans hE'; clear hE'))
      exact bodyPost_ret (v := .tuple #[.int .i64 0, .bool false]) (by simp [results, Try.results33, go_sem]) rfl ⟨by have h1 := Hs.out; have h2 := mostTF_no Hs.out; simp_all, hE0.trans hE⟩
    · have h0' : ((n : Int) == 0) = false := by simp; omega
      have Hgr := Lib.hid hgr
      have hob := ord_bd hgr
      by_cases h10 : ord l ≤ 10
      · have h10i : decide (10 < (ord l : Int)) = false := by simp; omega
        have Hs := Lib.hid (trB_yes hs (by omega) h10)
        have Hr := Lib.hid (mostTF_yes Hs.out)
        have hp2 := pw_le hob.2
        have hs0 := ishl_one (n := ord l) (by omega)
        have hP : Hid ((fullN l : Int) + 1 = (pw (ord l) : Int)) := Lib.hid (by unfold fullN; have := pw_pos (ord l); omega)
        have hfb : fullN l < 16777216 := by have := hP.out; omega
        have hP2 : Hid ((pw (ord l) : Int) - 1 = (fullN l : Int)) := Lib.hid (by have := hP.out; omega)
        clear hgr
        go_enter Try.func33, Try.ntmps33
        go_wp2_with fail
        rw [← Hwb.out]
        go_wp2_with (first | (go_at_call 73; refine (sIsSet_any _ _ _ _ (hg _ hE)).mono ?_; rintro e w' ⟨rfl, hE'⟩; replace hE := hE.trans hE'; clear hE') | (go_at_call 84; refine (l2Order_any _ _ _ (hg _ hE) (Hgr)).mono ?_; rintro e w' ⟨rfl, hE'⟩; replace hE := hE.trans hE'; clear hE'))
        skip
        clear hs h0 h0' hbx
        go_loopw [6, 7] (fun bv xv wr => ∃ k : Nat, 1 ≤ k ∧ k ≤ pw (ord l) ∧ xv = .int .i64 k ∧ bv = .int .i64 (mostTo l n k : Int) ∧ Ext wb wr) (fun _ x _ => pw (ord l) - (intOf x).toNat)
        case atStart => exact ⟨1, by omega, (by have := pw_pos (ord l); omega), rfl, (by rw [mostTo_one]; try rfl), hE⟩
        case round =>
          clear hE
          obtain ⟨k, hk0, hk, rfl, rfl, hE⟩ := hrel
          have hbx := hb _ hE
          by_cases hlt : k < pw (ord l)
          · have hbl := mostTo_lt l n k hk
            have hle : (k:Int) < (pw (ord l):Int) := by have := hP.out; omega
            have hk24 : k < 2 ^ 24 := by omega
            have hb24 : mostTo l n k < 2 ^ 24 := by omega
            have c1 := cnt_le k
            have c2 := cnt_le (mostTo l n k)
            by_cases hq : cnt (mostTo l n k) < cnt k
            · have hqi : decide (cnt (mostTo l n k) < cnt k) = true := by simp [hq]
              cases ht : directF l n k
              · have Hn := Lib.hid (mostTo_no' ht)
                go_wp2_with (first | (go_at_call 84; refine (l2Order_any _ _ _ (hg _ hE) (Hgr)).mono ?_; rintro e w' ⟨rfl, hE'⟩; replace hE := hE.trans hE'; clear hE') | (go_at_call 85; (first | (with_reducible refine (l3Bits_any _ hk24 _).mono ?_) | (with_reducible refine (l3Bits_any _ hb24 _).mono ?_)); rintro e w' ⟨rfl, rfl⟩) | (go_at_call 86; refine (sIsDirect_any _ _ _ _ _ (hg _ hE)).mono ?_; rintro e w' ⟨rfl, hE'⟩; replace hE := hE.trans hE'; clear hE'))
                go_roundw
                case rel => exact ⟨k + 1, by omega, by omega, by go_num, by rw [Hn.out], hE⟩
                case measure => (simp [intOf]; omega)
              · have Hn := Lib.hid (mostTo_yes hq ht)
                go_wp2_with (first | (go_at_call 84; refine (l2Order_any _ _ _ (hg _ hE) (Hgr)).mono ?_; rintro e w' ⟨rfl, hE'⟩; replace hE := hE.trans hE'; clear hE') | (go_at_call 85; (first | (with_reducible refine (l3Bits_any _ hk24 _).mono ?_) | (with_reducible refine (l3Bits_any _ hb24 _).mono ?_)); rintro e w' ⟨rfl, rfl⟩) | (go_at_call 86; refine (sIsDirect_any _ _ _ _ _ (hg _ hE)).mono ?_; rintro e w' ⟨rfl, hE'⟩; replace hE := hE.trans hE'; clear hE'))
                go_roundw
                case rel => exact ⟨k + 1, by omega, by omega, by go_num, by rw [Hn.out], hE⟩
                case measure => (simp [intOf]; omega)
            · have Hn := Lib.hid (mostTo_no hq)
              go_wp2_with (first | (go_at_call 84; refine (l2Order_any _ _ _ (hg _ hE) (Hgr)).mono ?_; rintro e w' ⟨rfl, hE'⟩; replace hE := hE.trans hE'; clear hE') | (go_at_call 85; (first | (with_reducible refine (l3Bits_any _ hk24 _).mono ?_) | (with_reducible refine (l3Bits_any _ hb24 _).mono ?_)); rintro e w' ⟨rfl, rfl⟩))
              go_roundw
              case rel => exact ⟨k + 1, by omega, by omega, by go_num, by rw [Hn.out], hE⟩
              case measure => (simp [intOf]; omega)
          · have hkl : k = pw (ord l) := by omega
            have hgt : ¬ ((k:Int) < (pw (ord l):Int)) := by have := hP.out; omega
            subst hkl
            go_wp2_with (first | (go_at_call 84; refine (l2Order_any _ _ _ (hg _ hE) (Hgr)).mono ?_; rintro e w' ⟨rfl, hE'⟩; replace hE := hE.trans hE'; clear hE'))
            exact bodyPost_ret (v := .tuple #[.int .i64 (mostTo l n (pw (ord l)) : Int), .bool true]) (by simp [results, Try.results33, go_sem]) rfl ⟨by rw [Hr.out, Hs.out], hE0.trans hE⟩
      · have h10i : decide (10 < (ord l : Int)) = true := by simp; omega
        have Hs := Lib.hid (trB_ord (a := n) h10)
        go_enter Try.func33, Try.ntmps33
        go_wp2_with fail
        rw [← Hwb.out]
        go_wp2_with (first | (go_at_call 73; refine (sIsSet_any _ _ _ _ (hg _ hE)).mono ?_; rintro e w' ⟨rfl, hE'⟩; replace hE := hE.trans hE'; clear hE') | (go_at_call 84; refine (l2Order_any _ _ _ (hg _ hE) (Hgr)).mono ?_; rintro e w' ⟨rfl, hE'⟩; replace hE := hE.trans hE'; clear hE'))
        exact bodyPost_ret (v := .tuple #[.int .i64 0, .bool false]) (by simp [results, Try.results33, go_sem]) rfl ⟨by rw [mostTF_no Hs.out, Hs.out], hE0.trans hE⟩
end Go.Zz

/- The draws of the laws on translates. -/
namespace Go.Zz
open Go.RowKit Go.Proofs
set_option maxHeartbeats 2000000
set_option maxRecDepth 8000

theorem l3One_any (v : Value) (l : List Int) (w : World) (h : Byts w v l) :
    Calls Try.prog 77 #[v] w fun e w' => ∃ ao L c x0, e = .returned (.tuple #[.agg #[.slice ao (List.length L) c], .int .i64 x0]) ∧ Own 3 w w' (.slice ao (List.length L) c) L ∧ Ext w w' := by
  have hE0 := (Ext.refl w).alloc (.cells #[.slice none 0 0] 26)
  have hB0 : Blk (w.alloc (.cells #[.slice none 0 0] 26)) w.heap.size 26 #[.slice none 0 0] := Blk.new _ _ _
  obtain ⟨wA, hwA⟩ : ∃ x, x = w.alloc (.cells #[.slice none 0 0] 26) := ⟨_, rfl⟩
  have hsA : wA.heap.size = w.heap.size + 1 := by rw [hwA]; simp
  rw [← hwA] at hE0 hB0
  have HwA := Lib.hid hwA
  clear hwA
  go_enter Try.func77, Try.ntmps77
  go_wp2_with fail
  rw [← HwA.out]
  refine (l1New_any _ _ w _ h hE0).mono ?_
  rintro e w2 ⟨p, rfl, hC2, hE2, hpA⟩
  have hp2 := hC2.lt
  have hB2 := hB0.ext hE2
  go_wp2_with fail
  refine (l2Any_any w _ p hC2).mono ?_
  rintro e w3 ⟨ao, L, c, rfl, hO3, hC3, hF3⟩
  have hB3 := hF3.blk hB2 (by omega)
  have hs3' := hF3.size
  have hpO := hp2.2
  clear hB0 hB2 hF3 hE2
  have hs3 := w3.heap.size
  have hBg7 : Blk (w3.alloc (.cells #[.slice ao L.length c] 26)) w3.heap.size 26 #[.slice ao L.length c] := Blk.new _ _ _
  have hBr7 := hB3.alloc (.cells #[.slice ao L.length c] 26)
  have hO7 := hO3.alloc (.cells #[.slice ao L.length c] 26)
  have hC7 := hC3.alloc (.cells #[.slice ao L.length c] 26)
  have hsw : (w3.alloc (.cells #[.slice ao L.length c] 26)).heap.size = w3.heap.size + 1 := by simp
  obtain ⟨w7, hw7⟩ : ∃ x, x = w3.alloc (.cells #[.slice ao L.length c] 26) := ⟨_, rfl⟩
  rw [← hw7] at hBg7 hBr7 hO7 hC7 hsw
  have Hw7 := Lib.hid hw7
  clear hw7 hs3 hB3 hO3 hC3
  have hE7 := (Ext.refl w7).drew
  have hO7D := hO7.ext hE7
  have hnot := own_not hO7 hBg7 (by decide)
  have hS0 : Cur w w7.drew p ∧ w7.drew.cell? ⟨w3.heap.size, 0, none⟩ = some (.slice ao L.length c) := ⟨hC7.ext hE7, (hBg7.ext hE7).cell rfl⟩
  go_wp2_with fail
  rw [← Hw7.out]
  first | (go_region_held3 (fun W => Cur w W p ∧ W.cell? ⟨w3.heap.size, 0, none⟩ = some (.slice ao L.length c)) (first | exact hS0 | exact hS1 | exact hS2) (first | (go_at_call 143; ((with_reducible refine Calls.mono (l3Set_any w _ w2 p _ _ hS0.1 hO7D hpO) ?_); rintro e w8 ⟨y, rfl, hb8, hC8, hF8⟩; have hBg8 := hF8.blk (hBg7.ext hE7) (by omega); have hBr8 := hF8.blk (hBr7.ext hE7) (by omega); have hO8 := hF8.own (hO7.ext hE7) hpO; have hS1 : Cur w w8 p ∧ w8.cell? ⟨w3.heap.size, 0, none⟩ = some (.slice ao L.length c) := ⟨hC8, hBg8.cell rfl⟩; have hS2 : Cur w (w8.setCell ⟨w.heap.size, 0, none⟩ (.slice ao L.length c)) p ∧ (w8.setCell ⟨w.heap.size, 0, none⟩ (.slice ao L.length c)).cell? ⟨w3.heap.size, 0, none⟩ = some (.slice ao L.length c) := ⟨hC8.other (by omega) (Nat.le_refl _) _, (hBg8.other (by simp; omega) _).cell rfl⟩; have kr8 := hBr8.cell (i := 0) (v := .slice none 0 0) rfl; have fr8 := hBr8.free 0)))) | (fail "the region")
  go_wp2_with fail
  have hO9 := (Own.setCell_below hO8 (p := ⟨w.heap.size, 0, none⟩) (by show w.heap.size < _; omega) (.slice ao L.length c)).low (w0 := w) (by omega)
  have hC9 := hS2.1.base
  have kres := (hBr8.set 0 (.slice ao L.length c)).cell (i := 0) (v := .slice ao L.length c) rfl
  clear hS2 kr8 fr8
  generalize w8.setCell ⟨w.heap.size, 0, none⟩ (.slice ao L.length c) = w9 at hO9 hC9 kres ⊢
  exact bodyPost_ret (v := .tuple #[.agg #[.slice ao L.length c], .int .i64 y]) (by simp [results, Try.results77, go_sem, kres]) rfl ⟨_, L, _, y, rfl, hO9, hC9⟩
theorem l3Two_any (v : Value) (l : List Int) (w : World) (h : Byts w v l) :
    Calls Try.prog 92 #[v] w fun e w' => ∃ ao L c x0 x1, e = .returned (.tuple #[.agg #[.slice ao (List.length L) c], .int .i64 x0, .int .i64 x1]) ∧ Own 3 w w' (.slice ao (List.length L) c) L ∧ Ext w w' := by
  have hE0 := (Ext.refl w).alloc (.cells #[.slice none 0 0] 26)
  have hB0 : Blk (w.alloc (.cells #[.slice none 0 0] 26)) w.heap.size 26 #[.slice none 0 0] := Blk.new _ _ _
  obtain ⟨wA, hwA⟩ : ∃ x, x = w.alloc (.cells #[.slice none 0 0] 26) := ⟨_, rfl⟩
  have hsA : wA.heap.size = w.heap.size + 1 := by rw [hwA]; simp
  rw [← hwA] at hE0 hB0
  have HwA := Lib.hid hwA
  clear hwA
  go_enter Try.func92, Try.ntmps92
  go_wp2_with fail
  rw [← HwA.out]
  refine (l1New_any _ _ w _ h hE0).mono ?_
  rintro e w2 ⟨p, rfl, hC2, hE2, hpA⟩
  have hp2 := hC2.lt
  have hB2 := hB0.ext hE2
  go_wp2_with fail
  refine (l2Any_any w _ p hC2).mono ?_
  rintro e w3 ⟨ao, L, c, rfl, hO3, hC3, hF3⟩
  have hB3 := hF3.blk hB2 (by omega)
  have hs3' := hF3.size
  have hpO := hp2.2
  clear hB0 hB2 hF3 hE2
  have hs3 := w3.heap.size
  have hBg7 : Blk (w3.alloc (.cells #[.slice ao L.length c] 26)) w3.heap.size 26 #[.slice ao L.length c] := Blk.new _ _ _
  have hBr7 := hB3.alloc (.cells #[.slice ao L.length c] 26)
  have hO7 := hO3.alloc (.cells #[.slice ao L.length c] 26)
  have hC7 := hC3.alloc (.cells #[.slice ao L.length c] 26)
  have hsw : (w3.alloc (.cells #[.slice ao L.length c] 26)).heap.size = w3.heap.size + 1 := by simp
  obtain ⟨w7, hw7⟩ : ∃ x, x = w3.alloc (.cells #[.slice ao L.length c] 26) := ⟨_, rfl⟩
  rw [← hw7] at hBg7 hBr7 hO7 hC7 hsw
  have Hw7 := Lib.hid hw7
  clear hw7 hs3 hB3 hO3 hC3
  have kg7 := hBg7.cell (i := 0) (v := .slice ao L.length c) rfl
  go_wp2_with fail
  rw [← Hw7.out]
  refine (l3Set_any w _ w2 p _ _ hC7 hO7 hpO).mono ?_
  rintro e w6 ⟨z, rfl, hz, hC6, hF6⟩
  have hs6 := hF6.size
  have hBr6 := hF6.blk hBr7 (by omega)
  have hBg6 := hF6.blk hBg7 (by omega)
  have hO6 := hF6.own hO7 hpO
  clear hBr7 hBg7 hO7 hC7 hF6 kg7
  have hBr7 := hBr6
  have hBg7 := hBg6
  have hO7 := hO6
  have hC7 := hC6
  clear hBr6 hBg6 hO6 hC6
  clear Hw7 hsw
  have hE7 := (Ext.refl w6).drew
  have hO7D := hO7.ext hE7
  have hnot := own_not hO7 hBg7 (by decide)
  have hS0 : Cur w w6.drew p ∧ w6.drew.cell? ⟨w3.heap.size, 0, none⟩ = some (.slice ao L.length c) := ⟨hC7.ext hE7, (hBg7.ext hE7).cell rfl⟩
  go_wp2_with fail
  skip
  first | (go_region_held3 (fun W => Cur w W p ∧ W.cell? ⟨w3.heap.size, 0, none⟩ = some (.slice ao L.length c)) (first | exact hS0 | exact hS1 | exact hS2) (first | (go_at_call 143; ((with_reducible refine Calls.mono (l3Set_any w _ w2 p _ _ hS0.1 hO7D hpO) ?_); rintro e w8 ⟨y, rfl, hb8, hC8, hF8⟩; have hBg8 := hF8.blk (hBg7.ext hE7) (by omega); have hBr8 := hF8.blk (hBr7.ext hE7) (by omega); have hO8 := hF8.own (hO7.ext hE7) hpO; have hS1 : Cur w w8 p ∧ w8.cell? ⟨w3.heap.size, 0, none⟩ = some (.slice ao L.length c) := ⟨hC8, hBg8.cell rfl⟩; have hS2 : Cur w (w8.setCell ⟨w.heap.size, 0, none⟩ (.slice ao L.length c)) p ∧ (w8.setCell ⟨w.heap.size, 0, none⟩ (.slice ao L.length c)).cell? ⟨w3.heap.size, 0, none⟩ = some (.slice ao L.length c) := ⟨hC8.other (by omega) (Nat.le_refl _) _, (hBg8.other (by simp; omega) _).cell rfl⟩; have kr8 := hBr8.cell (i := 0) (v := .slice none 0 0) rfl; have fr8 := hBr8.free 0)))) | (fail "the region")
  go_wp2_with fail
  have hO9 := (Own.setCell_below hO8 (p := ⟨w.heap.size, 0, none⟩) (by show w.heap.size < _; omega) (.slice ao L.length c)).low (w0 := w) (by omega)
  have hC9 := hS2.1.base
  have kres := (hBr8.set 0 (.slice ao L.length c)).cell (i := 0) (v := .slice ao L.length c) rfl
  clear hS2 kr8 fr8
  generalize w8.setCell ⟨w.heap.size, 0, none⟩ (.slice ao L.length c) = w9 at hO9 hC9 kres ⊢
  exact bodyPost_ret (v := .tuple #[.agg #[.slice ao L.length c], .int .i64 z, .int .i64 y]) (by simp [results, Try.results92, go_sem, kres]) rfl ⟨_, L, _, z, y, rfl, hO9, hC9⟩
theorem l29Small_any (v : Value) (l : List Int) (w : World) (h : Byts w v l) :
    Calls Try.prog 80 #[v] w fun e w' => ∃ ao L c x0, e = .returned (.tuple #[.agg #[.slice ao (List.length L) c], .int .i64 x0]) ∧ Own 3 w w' (.slice ao (List.length L) c) L ∧ Ext w w' := by
  have hE0 := (Ext.refl w).alloc (.cells #[.slice none 0 0] 26)
  have hB0 : Blk (w.alloc (.cells #[.slice none 0 0] 26)) w.heap.size 26 #[.slice none 0 0] := Blk.new _ _ _
  obtain ⟨wA, hwA⟩ : ∃ x, x = w.alloc (.cells #[.slice none 0 0] 26) := ⟨_, rfl⟩
  have hsA : wA.heap.size = w.heap.size + 1 := by rw [hwA]; simp
  rw [← hwA] at hE0 hB0
  have HwA := Lib.hid hwA
  clear hwA
  go_enter Try.func80, Try.ntmps80
  go_wp2_with fail
  rw [← HwA.out]
  refine (l1New_any _ _ w _ h hE0).mono ?_
  rintro e w2 ⟨p, rfl, hC2, hE2, hpA⟩
  have hp2 := hC2.lt
  have hB2 := hB0.ext hE2
  go_wp2_with fail
  refine (l2Draw_any w _ p 8 hC2).mono ?_
  rintro e w3 ⟨ao, L, c, rfl, hO3, hC3, hF3⟩
  have hB3 := hF3.blk hB2 (by omega)
  have hs3 := hF3.size
  have hBg3 : Blk (w3.alloc (.cells #[.slice ao L.length c] 26)) w3.heap.size 26 #[.slice ao L.length c] := Blk.new _ _ _
  clear hB0 hB2 hF3 hE2
  go_wp2_with fail
  refine (l1Once_any w _ p 8 (by omega) (hC3.alloc _)).mono ?_
  rintro e w4 ⟨b, rfl, hC, hF4⟩
  have hs4 := hF4.size
  have hs5 : (w3.alloc (.cells #[.slice ao L.length c] 26)).heap.size = w3.heap.size + 1 := by simp
  have hBr := hF4.blk (hB3.alloc (.cells #[.slice ao L.length c] 26)) (by omega)
  have hBg := hF4.blk hBg3 (by omega)
  have hO := hF4.own (hO3.alloc (.cells #[.slice ao L.length c] 26)) (by omega)
  have hpO := hp2.2
  clear hB3 hBg3 hO3 hF4 hC3
  cases b
  · have hC7 := hC
    have hBr7 := hBr
    have hBg7 := hBg
    have hO7 := hO
    clear hC hBr hBg hO
    go_wp2_with fail
    have hE7 := (Ext.refl w4).drew
    have hO7D := hO7.ext hE7
    have hnot := own_not hO7 hBg7 (by decide)
    have hS0 : Cur w w4.drew p ∧ w4.drew.cell? ⟨w3.heap.size, 0, none⟩ = some (.slice ao L.length c) := ⟨hC7.ext hE7, (hBg7.ext hE7).cell rfl⟩
    skip
    skip
    first | (go_region_held3 (fun W => Cur w W p ∧ W.cell? ⟨w3.heap.size, 0, none⟩ = some (.slice ao L.length c)) (first | exact hS0 | exact hS1 | exact hS2) (first | (go_at_call 143; ((with_reducible refine Calls.mono (l3Set_any w _ w2 p _ _ hS0.1 hO7D hpO) ?_); rintro e w8 ⟨y, rfl, hb8, hC8, hF8⟩; have hBg8 := hF8.blk (hBg7.ext hE7) (by omega); have hBr8 := hF8.blk (hBr7.ext hE7) (by omega); have hO8 := hF8.own (hO7.ext hE7) hpO; have hS1 : Cur w w8 p ∧ w8.cell? ⟨w3.heap.size, 0, none⟩ = some (.slice ao L.length c) := ⟨hC8, hBg8.cell rfl⟩; have hS2 : Cur w (w8.setCell ⟨w.heap.size, 0, none⟩ (.slice ao L.length c)) p ∧ (w8.setCell ⟨w.heap.size, 0, none⟩ (.slice ao L.length c)).cell? ⟨w3.heap.size, 0, none⟩ = some (.slice ao L.length c) := ⟨hC8.other (by omega) (Nat.le_refl _) _, (hBg8.other (by simp; omega) _).cell rfl⟩; have kr8 := hBr8.cell (i := 0) (v := .slice none 0 0) rfl; have fr8 := hBr8.free 0)))) | (fail "the region")
    go_wp2_with fail
    have hO9 := (Own.setCell_below hO8 (p := ⟨w.heap.size, 0, none⟩) (by show w.heap.size < _; omega) (.slice ao L.length c)).low (w0 := w) (by omega)
    have hC9 := hS2.1.base
    have kres := (hBr8.set 0 (.slice ao L.length c)).cell (i := 0) (v := .slice ao L.length c) rfl
    clear hS2 kr8 fr8
    generalize w8.setCell ⟨w.heap.size, 0, none⟩ (.slice ao L.length c) = w9 at hO9 hC9 kres ⊢
    exact bodyPost_ret (v := .tuple #[.agg #[.slice ao L.length c], .int .i64 y]) (by simp [results, Try.results80, go_sem, kres]) rfl ⟨_, L, _, y, rfl, hO9, hC9⟩
  · go_wp2_with fail
    refine (l2Any_any w _ p hC).mono ?_
    rintro e w5 ⟨ao5, L5, c5, rfl, hO5, hC5, hF5⟩
    have hs6 := hF5.size
    have hBr5 := hF5.blk hBr (by omega)
    have hBg5 := hF5.blk hBg (by omega)
    have kg5 := hBg5.cell (i := 0) (v := .slice ao L.length c) rfl
    have fg5 := hBg5.free 0
    have hg4 : w3.heap.size < w4.heap.size := hBg.lt
    have hO7 := (hO5.setCell_below (p := ⟨w3.heap.size, 0, none⟩) hg4 (.slice ao5 L5.length c5))
    have hpO := hC.lt.2
    have hC7 := hC5.other (b := w3.heap.size) (i := 0) (by omega) (by omega) (.slice ao5 L5.length c5)
    have hBr7 := hBr5.other (p := ⟨w3.heap.size, 0, none⟩) (by simp; omega) (.slice ao5 L5.length c5)
    have hBg7 : Blk (w5.setCell ⟨w3.heap.size, 0, none⟩ (.slice ao5 L5.length c5)) w3.heap.size 26 #[.slice ao5 L5.length c5] := hBg5.set 0 _
    clear hO5 hC5 hF5 hBr5 hBg5 hC hBr hBg hO
    go_wp2_with fail
    clear kg5 fg5
    generalize w5.setCell ⟨w3.heap.size, 0, none⟩ (.slice ao5 L5.length c5) = w7 at hO7 hC7 hBr7 hBg7 ⊢
    have hE7 := (Ext.refl w7).drew
    have hO7D := hO7.ext hE7
    have hnot := own_not hO7 hBg7 (by decide)
    have hS0 : Cur w w7.drew p ∧ w7.drew.cell? ⟨w3.heap.size, 0, none⟩ = some (.slice ao5 L5.length c5) := ⟨hC7.ext hE7, (hBg7.ext hE7).cell rfl⟩
    skip
    skip
    first | (go_region_held3 (fun W => Cur w W p ∧ W.cell? ⟨w3.heap.size, 0, none⟩ = some (.slice ao5 L5.length c5)) (first | exact hS0 | exact hS1 | exact hS2) (first | (go_at_call 143; ((with_reducible refine Calls.mono (l3Set_any w _ w4 p _ _ hS0.1 hO7D hpO) ?_); rintro e w8 ⟨y, rfl, hb8, hC8, hF8⟩; have hBg8 := hF8.blk (hBg7.ext hE7) (by omega); have hBr8 := hF8.blk (hBr7.ext hE7) (by omega); have hO8 := hF8.own (hO7.ext hE7) hpO; have hS1 : Cur w w8 p ∧ w8.cell? ⟨w3.heap.size, 0, none⟩ = some (.slice ao5 L5.length c5) := ⟨hC8, hBg8.cell rfl⟩; have hS2 : Cur w (w8.setCell ⟨w.heap.size, 0, none⟩ (.slice ao5 L5.length c5)) p ∧ (w8.setCell ⟨w.heap.size, 0, none⟩ (.slice ao5 L5.length c5)).cell? ⟨w3.heap.size, 0, none⟩ = some (.slice ao5 L5.length c5) := ⟨hC8.other (by omega) (Nat.le_refl _) _, (hBg8.other (by simp; omega) _).cell rfl⟩; have kr8 := hBr8.cell (i := 0) (v := .slice none 0 0) rfl; have fr8 := hBr8.free 0)))) | (fail "the region")
    go_wp2_with fail
    have hO9 := (Own.setCell_below hO8 (p := ⟨w.heap.size, 0, none⟩) (by show w.heap.size < _; omega) (.slice ao5 L5.length c5)).low (w0 := w) (by omega)
    have hC9 := hS2.1.base
    have kres := (hBr8.set 0 (.slice ao5 L5.length c5)).cell (i := 0) (v := .slice ao5 L5.length c5) rfl
    clear hS2 kr8 fr8
    generalize w8.setCell ⟨w.heap.size, 0, none⟩ (.slice ao5 L5.length c5) = w9 at hO9 hC9 kres ⊢
    exact bodyPost_ret (v := .tuple #[.agg #[.slice ao5 L5.length c5], .int .i64 y]) (by simp [results, Try.results80, go_sem, kres]) rfl ⟨_, L5, _, y, rfl, hO9, hC9⟩
theorem DrawFewestTranslates_any (v : Value) (l : List Int) (w : World) (h : Byts w v l) :
    Calls Try.prog 29 #[v] w fun e w' => ∃ ao L c x0, e = .returned (.tuple #[.agg #[.slice ao (List.length L) c], .int .i64 x0]) ∧ Own 3 w w' (.slice ao (List.length L) c) L ∧ Ext w w' := by
  have hE0 := (Ext.refl w).alloc (.cells #[.slice none 0 0] 26)
  have hB0 : Blk (w.alloc (.cells #[.slice none 0 0] 26)) w.heap.size 26 #[.slice none 0 0] := Blk.new _ _ _
  obtain ⟨wA, hwA⟩ : ∃ x, x = w.alloc (.cells #[.slice none 0 0] 26) := ⟨_, rfl⟩
  have hsA : wA.heap.size = w.heap.size + 1 := by rw [hwA]; simp
  rw [← hwA] at hE0 hB0
  have HwA := Lib.hid hwA
  clear hwA
  go_enter Try.func29, Try.ntmps29
  go_wp2_with fail
  rw [← HwA.out]
  refine (l29Small_any _ _ _ (h.ext hE0)).mono ?_
  rintro e w2 ⟨ao, L, c, x0, rfl, hO, hE⟩
  have hBr := (hB0.ext hE).alloc (.cells #[.slice ao L.length c] 26)
  have kr := hBr.cell (i := 0) (v := .slice none 0 0) rfl
  have fr := hBr.free 0
  have kg := (Blk.new w2 26 #[.slice ao L.length c]).cell (i := 0) (v := .slice ao L.length c) rfl
  have hO9 := (Own.setCell_below (hO.alloc (.cells #[.slice ao L.length c] 26)) (p := ⟨w.heap.size, 0, none⟩) (by show w.heap.size < _; omega) (.slice ao L.length c)).low (w0 := w) (by omega)
  have hC9 := ((hE0.trans hE).alloc (.cells #[.slice ao L.length c] 26)).setCell (p := ⟨w.heap.size, 0, none⟩) (Nat.le_refl _) (.slice ao L.length c)
  have kres := (hBr.set 0 (.slice ao L.length c)).cell (i := 0) (v := .slice ao L.length c) rfl
  go_wp2_with fail
  clear kr fr kg hBr
  generalize (w2.alloc (.cells #[.slice ao L.length c] 26)).setCell ⟨w.heap.size, 0, none⟩ (.slice ao L.length c) = w9 at hO9 hC9 kres ⊢
  exact bodyPost_ret (v := .tuple #[.agg #[.slice ao L.length c], .int .i64 x0]) (by simp [results, Try.results29, go_sem, kres]) rfl ⟨_, L, _, x0, rfl, hO9, hC9⟩
theorem DrawGreedyTranslates_any (v : Value) (l : List Int) (w : World) (h : Byts w v l) :
    Calls Try.prog 42 #[v] w fun e w' => ∃ ao L c x0, e = .returned (.tuple #[.agg #[.slice ao (List.length L) c], .int .i64 x0]) ∧ Own 3 w w' (.slice ao (List.length L) c) L ∧ Ext w w' := by
  have hE0 := (Ext.refl w).alloc (.cells #[.slice none 0 0] 26)
  have hB0 : Blk (w.alloc (.cells #[.slice none 0 0] 26)) w.heap.size 26 #[.slice none 0 0] := Blk.new _ _ _
  obtain ⟨wA, hwA⟩ : ∃ x, x = w.alloc (.cells #[.slice none 0 0] 26) := ⟨_, rfl⟩
  have hsA : wA.heap.size = w.heap.size + 1 := by rw [hwA]; simp
  rw [← hwA] at hE0 hB0
  have HwA := Lib.hid hwA
  clear hwA
  go_enter Try.func42, Try.ntmps42
  go_wp2_with fail
  rw [← HwA.out]
  refine (l3One_any _ _ _ (h.ext hE0)).mono ?_
  rintro e w2 ⟨ao, L, c, x0, rfl, hO, hE⟩
  have hBr := (hB0.ext hE).alloc (.cells #[.slice ao L.length c] 26)
  have kr := hBr.cell (i := 0) (v := .slice none 0 0) rfl
  have fr := hBr.free 0
  have kg := (Blk.new w2 26 #[.slice ao L.length c]).cell (i := 0) (v := .slice ao L.length c) rfl
  have hO9 := (Own.setCell_below (hO.alloc (.cells #[.slice ao L.length c] 26)) (p := ⟨w.heap.size, 0, none⟩) (by show w.heap.size < _; omega) (.slice ao L.length c)).low (w0 := w) (by omega)
  have hC9 := ((hE0.trans hE).alloc (.cells #[.slice ao L.length c] 26)).setCell (p := ⟨w.heap.size, 0, none⟩) (Nat.le_refl _) (.slice ao L.length c)
  have kres := (hBr.set 0 (.slice ao L.length c)).cell (i := 0) (v := .slice ao L.length c) rfl
  go_wp2_with fail
  clear kr fr kg hBr
  generalize (w2.alloc (.cells #[.slice ao L.length c] 26)).setCell ⟨w.heap.size, 0, none⟩ (.slice ao L.length c) = w9 at hO9 hC9 kres ⊢
  exact bodyPost_ret (v := .tuple #[.agg #[.slice ao L.length c], .int .i64 x0]) (by simp [results, Try.results42, go_sem, kres]) rfl ⟨_, L, _, x0, rfl, hO9, hC9⟩
theorem DrawNewKept_any (v : Value) (l : List Int) (w : World) (h : Byts w v l) :
    Calls Try.prog 22 #[v] w fun e w' => ∃ ao L c x0, e = .returned (.tuple #[.agg #[.slice ao (List.length L) c], .int .i64 x0]) ∧ Own 3 w w' (.slice ao (List.length L) c) L ∧ Ext w w' := by
  have hE0 := (Ext.refl w).alloc (.cells #[.slice none 0 0] 26)
  have hB0 : Blk (w.alloc (.cells #[.slice none 0 0] 26)) w.heap.size 26 #[.slice none 0 0] := Blk.new _ _ _
  obtain ⟨wA, hwA⟩ : ∃ x, x = w.alloc (.cells #[.slice none 0 0] 26) := ⟨_, rfl⟩
  have hsA : wA.heap.size = w.heap.size + 1 := by rw [hwA]; simp
  rw [← hwA] at hE0 hB0
  have HwA := Lib.hid hwA
  clear hwA
  go_enter Try.func22, Try.ntmps22
  go_wp2_with fail
  rw [← HwA.out]
  refine (l3One_any _ _ _ (h.ext hE0)).mono ?_
  rintro e w2 ⟨ao, L, c, x0, rfl, hO, hE⟩
  have hBr := (hB0.ext hE).alloc (.cells #[.slice ao L.length c] 26)
  have kr := hBr.cell (i := 0) (v := .slice none 0 0) rfl
  have fr := hBr.free 0
  have kg := (Blk.new w2 26 #[.slice ao L.length c]).cell (i := 0) (v := .slice ao L.length c) rfl
  have hO9 := (Own.setCell_below (hO.alloc (.cells #[.slice ao L.length c] 26)) (p := ⟨w.heap.size, 0, none⟩) (by show w.heap.size < _; omega) (.slice ao L.length c)).low (w0 := w) (by omega)
  have hC9 := ((hE0.trans hE).alloc (.cells #[.slice ao L.length c] 26)).setCell (p := ⟨w.heap.size, 0, none⟩) (Nat.le_refl _) (.slice ao L.length c)
  have kres := (hBr.set 0 (.slice ao L.length c)).cell (i := 0) (v := .slice ao L.length c) rfl
  go_wp2_with fail
  clear kr fr kg hBr
  generalize (w2.alloc (.cells #[.slice ao L.length c] 26)).setCell ⟨w.heap.size, 0, none⟩ (.slice ao L.length c) = w9 at hO9 hC9 kres ⊢
  exact bodyPost_ret (v := .tuple #[.agg #[.slice ao L.length c], .int .i64 x0]) (by simp [results, Try.results22, go_sem, kres]) rfl ⟨_, L, _, x0, rfl, hO9, hC9⟩
theorem DrawIntersectionSizes_any (v : Value) (l : List Int) (w : World) (h : Byts w v l) :
    Calls Try.prog 44 #[v] w fun e w' => ∃ ao L c x0 x1, e = .returned (.tuple #[.agg #[.slice ao (List.length L) c], .int .i64 x0, .int .i64 x1]) ∧ Own 3 w w' (.slice ao (List.length L) c) L ∧ Ext w w' := by
  have hE0 := (Ext.refl w).alloc (.cells #[.slice none 0 0] 26)
  have hB0 : Blk (w.alloc (.cells #[.slice none 0 0] 26)) w.heap.size 26 #[.slice none 0 0] := Blk.new _ _ _
  obtain ⟨wA, hwA⟩ : ∃ x, x = w.alloc (.cells #[.slice none 0 0] 26) := ⟨_, rfl⟩
  have hsA : wA.heap.size = w.heap.size + 1 := by rw [hwA]; simp
  rw [← hwA] at hE0 hB0
  have HwA := Lib.hid hwA
  clear hwA
  go_enter Try.func44, Try.ntmps44
  go_wp2_with fail
  rw [← HwA.out]
  refine (l3Two_any _ _ _ (h.ext hE0)).mono ?_
  rintro e w2 ⟨ao, L, c, x0, x1, rfl, hO, hE⟩
  have hBr := (hB0.ext hE).alloc (.cells #[.slice ao L.length c] 26)
  have kr := hBr.cell (i := 0) (v := .slice none 0 0) rfl
  have fr := hBr.free 0
  have kg := (Blk.new w2 26 #[.slice ao L.length c]).cell (i := 0) (v := .slice ao L.length c) rfl
  have hO9 := (Own.setCell_below (hO.alloc (.cells #[.slice ao L.length c] 26)) (p := ⟨w.heap.size, 0, none⟩) (by show w.heap.size < _; omega) (.slice ao L.length c)).low (w0 := w) (by omega)
  have hC9 := ((hE0.trans hE).alloc (.cells #[.slice ao L.length c] 26)).setCell (p := ⟨w.heap.size, 0, none⟩) (Nat.le_refl _) (.slice ao L.length c)
  have kres := (hBr.set 0 (.slice ao L.length c)).cell (i := 0) (v := .slice ao L.length c) rfl
  go_wp2_with fail
  clear kr fr kg hBr
  generalize (w2.alloc (.cells #[.slice ao L.length c] 26)).setCell ⟨w.heap.size, 0, none⟩ (.slice ao L.length c) = w9 at hO9 hC9 kres ⊢
  exact bodyPost_ret (v := .tuple #[.agg #[.slice ao L.length c], .int .i64 x0, .int .i64 x1]) (by simp [results, Try.results44, go_sem, kres]) rfl ⟨_, L, _, x0, x1, rfl, hO9, hC9⟩
end Go.Zz
