/- Fewest and most translates. -/
import Derived.Test.YtpflnogcngeemaaC19
namespace Go.Zz
open Go.RowKit Go.Proofs
set_option maxHeartbeats 400000

def trB (l : List Int) (a : Int) : Bool := isOneB l a && decide (ord l ≤ 10)
theorem trB_set {l : List Int} {a : Int} (h : isSetB l a = false) : trB l a = false := by unfold trB; rw [isOneB_no h]; rfl
theorem trB_zero (l : List Int) : trB l 0 = false := by unfold trB; rw [isOneB_zero]; rfl
theorem trB_ord {l : List Int} {a : Int} (h : ¬ ord l ≤ 10) : trB l a = false := by unfold trB; simp [h]
theorem trB_yes {l : List Int} {n : Nat} (h : isSetB l n = true) (h0 : 0 < n) (h2 : ord l ≤ 10) : trB l n = true := by unfold trB; rw [isOneB_yes h h0]; simp [h2]
/-- the first cover of fewest elements below k -/
def fewTo (l : List Int) (a : Int) : Nat → Nat
  | 0 => fullN l
  | k + 1 => if cnt k < cnt (fewTo l a k) ∧ covF l a k = true then k else fewTo l a k
theorem fewTo_yes {l : List Int} {a : Int} {k : Nat} (h : cnt k < cnt (fewTo l a k)) (h2 : covF l a k = true) : fewTo l a (k + 1) = k := by rw [fewTo, if_pos ⟨h, h2⟩]
theorem fewTo_no {l : List Int} {a : Int} {k : Nat} (h : ¬ cnt k < cnt (fewTo l a k)) : fewTo l a (k + 1) = fewTo l a k := by rw [fewTo, if_neg (fun e => h e.1)]
theorem fewTo_no' {l : List Int} {a : Int} {k : Nat} (h : covF l a k = false) : fewTo l a (k + 1) = fewTo l a k := by rw [fewTo, if_neg (fun e => by rw [h] at e; cases e.2)]
theorem fewTo_lt (l : List Int) (a : Int) : ∀ k, k ≤ pw (ord l) → fewTo l a k < pw (ord l)
  | 0, _ => fullN_lt l
  | k + 1, h => by
    rw [fewTo]; split
    · omega
    · exact fewTo_lt l a k (by omega)
theorem sumF_none (l : List Int) (a : Nat) : sumF l a 0 = 0 := by
  have e : elems 0 = [] := by decide
  unfold sumF; rw [e]
  have h : ∀ L : List Nat, L.flatMap (fun _ => ([] : List Nat)) = [] := fun L => by simp
  show bset ((elems a).flatMap (fun _ => [])) = 0
  rw [h]; rfl
theorem cov_none {l : List Int} (h : isGrp l = true) (a : Int) : covF l a 0 = false := by
  unfold covF
  have h1 : (sumF l a.toNat (0 : Int).toNat) = 0 := sumF_none l a.toNat
  rw [h1, fullF_n h]
  have h2 : 1 ≤ fullN l := by
    unfold fullN pw
    have : 2 ^ 1 ≤ 2 ^ ord l := Nat.pow_le_pow_right (by omega) (ord_bd h).1
    omega
  have h3 : decide (((0 : Nat) : Int) = (fullN l : Int)) = false := by simp; omega
  rw [h3]; simp
theorem fewTo_one {l : List Int} (h : isGrp l = true) (a : Int) : fewTo l a 1 = fullN l := fewTo_no' (k := 0) (cov_none h a)
/-- the first of most elements below k whose shifts do not meet -/
def mostTo (l : List Int) (a : Int) : Nat → Nat
  | 0 => 0
  | k + 1 => if cnt (mostTo l a k) < cnt k ∧ directF l a k = true then k else mostTo l a k
theorem mostTo_yes {l : List Int} {a : Int} {k : Nat} (h : cnt (mostTo l a k) < cnt k) (h2 : directF l a k = true) : mostTo l a (k + 1) = k := by rw [mostTo, if_pos ⟨h, h2⟩]
theorem mostTo_no {l : List Int} {a : Int} {k : Nat} (h : ¬ cnt (mostTo l a k) < cnt k) : mostTo l a (k + 1) = mostTo l a k := by rw [mostTo, if_neg (fun e => h e.1)]
theorem mostTo_no' {l : List Int} {a : Int} {k : Nat} (h : directF l a k = false) : mostTo l a (k + 1) = mostTo l a k := by rw [mostTo, if_neg (fun e => by rw [h] at e; cases e.2)]
theorem mostTo_lt (l : List Int) (a : Int) : ∀ k, k ≤ pw (ord l) → mostTo l a k < pw (ord l)
  | 0, _ => pw_pos _
  | k + 1, h => by
    rw [mostTo]; split
    · omega
    · exact mostTo_lt l a k (by omega)
theorem mostTo_one (l : List Int) (a : Int) : mostTo l a 1 = 0 := mostTo_no (k := 0) (by simp [mostTo])
def fewF (l : List Int) (a : Int) : Int := if trB l a then (fewTo l a (pw (ord l)) : Int) else 0
theorem fewF_no {l : List Int} {a : Int} (h : trB l a = false) : fewF l a = 0 := by unfold fewF; rw [h]; rfl
theorem fewF_yes {l : List Int} {a : Int} (h : trB l a = true) : fewF l a = (fewTo l a (pw (ord l)) : Int) := by unfold fewF; rw [if_pos h]
def mostTF (l : List Int) (a : Int) : Int := if trB l a then (mostTo l a (pw (ord l)) : Int) else 0
theorem mostTF_no {l : List Int} {a : Int} (h : trB l a = false) : mostTF l a = 0 := by unfold mostTF; rw [h]; rfl
theorem mostTF_yes {l : List Int} {a : Int} (h : trB l a = true) : mostTF l a = (mostTo l a (pw (ord l)) : Int) := by unfold mostTF; rw [if_pos h]

theorem FewestTranslates_any (v : Value) (l : List Int) (a : Int) (w : World) (h : Ints w v l) :
    Calls Try.prog 56 #[.agg #[v], .int .i64 a] w fun e w' => e = .returned (.tuple #[.int .i64 (fewF l a), .bool (trB l a)]) ∧ Ext w w' := by
  obtain ⟨wb, hwb⟩ : ∃ wb, wb = w.alloc (.cells #[v] 26) := ⟨_, rfl⟩
  have hE0 := (Ext.refl w).alloc (.cells #[v] 26)
  have hb := box_cell w v 26
  rw [← hwb] at hE0 hb
  have hg : ∀ W, Ext wb W → Ints W v l := fun W hW => h.ext (hE0.trans hW)
  have hE := Ext.refl wb
  have Hsz : Hid (w.heap.size + 1 = wb.heap.size) := Lib.hid (by rw [hwb]; simp [go_sem])
  have Hwb := Lib.hid hwb
  clear hwb h
  have hbx := hb wb hE
  cases hs : isSetB l a
  · have Hs := Lib.hid (trB_set hs)
    go_enter Try.func56, Try.ntmps56
    go_wp2_with fail
    rw [← Hwb.out]
    go_wp2_with (first | (go_at_call 87; refine (IsSet_any _ _ _ _ (hg _ hE)).mono ?_; rintro e w' ⟨rfl, hE'⟩; replace hE := hE.trans hE'; clear hE'))
    exact bodyPost_ret (v := .tuple #[.int .i64 0, .bool false]) (by simp [results, Try.results56, go_sem]) rfl ⟨by rw [fewF_no Hs.out, Hs.out], hE0.trans hE⟩
  · obtain ⟨n, rfl, h1, h2, hgr⟩ := isSetB_nat hs
    by_cases h0 : n = 0
    · subst h0
      have Hs := Lib.hid (trB_zero l)
      go_enter Try.func56, Try.ntmps56
      go_wp2_with fail
      rw [← Hwb.out]
      go_wp2_with (first | (go_at_call 87; refine (IsSet_any _ _ _ _ (hg _ hE)).mono ?_; rintro e w' ⟨rfl, hE'⟩; replace hE := hE.trans hE'; clear hE'))
      exact bodyPost_ret (v := .tuple #[.int .i64 0, .bool false]) (by simp [results, Try.results56, go_sem]) rfl ⟨by have h1 := Hs.out; have h2 := fewF_no Hs.out; simp_all, hE0.trans hE⟩
    · have h0' : ((n : Int) == 0) = false := by simp; omega
      have Hgr := Lib.hid hgr
      have hob := ord_bd hgr
      by_cases h10 : ord l ≤ 10
      · have h10i : decide (10 < (ord l : Int)) = false := by simp; omega
        have Hs := Lib.hid (trB_yes hs (by omega) h10)
        have Hr := Lib.hid (fewF_yes Hs.out)
        have hp2 := pw_le hob.2
        have hs0 := ishl_one (n := ord l) (by omega)
        have hP : Hid ((fullN l : Int) + 1 = (pw (ord l) : Int)) := Lib.hid (by unfold fullN; have := pw_pos (ord l); omega)
        have hfb : fullN l < 16777216 := by have := hP.out; omega
        have hP2 : Hid ((pw (ord l) : Int) - 1 = (fullN l : Int)) := Lib.hid (by have := hP.out; omega)
        clear hgr
        go_enter Try.func56, Try.ntmps56
        go_wp2_with fail
        rw [← Hwb.out]
        go_wp2_with (first | (go_at_call 87; refine (IsSet_any _ _ _ _ (hg _ hE)).mono ?_; rintro e w' ⟨rfl, hE'⟩; replace hE := hE.trans hE'; clear hE') | (go_at_call 65; refine (OrderOf_grp _ _ _ (hg _ hE) (Hgr)).mono ?_; rintro e w' ⟨rfl, hE'⟩; replace hE := hE.trans hE'; clear hE') | (go_at_call 86; refine (FullSet_grp _ _ _ (hg _ hE) (Hgr)).mono ?_; rintro e w' ⟨rfl, hE'⟩; replace hE := hE.trans hE'; clear hE'))
        rw [hP.out]
        clear hs h0 h0' hbx
        go_loopw [6, 26] (fun bv xv wr => ∃ k : Nat, 0 ≤ k ∧ k ≤ pw (ord l) ∧ xv = .int .i64 k ∧ bv = .int .i64 (fewTo l n k : Int) ∧ Ext wb wr) (fun _ x _ => pw (ord l) - (intOf x).toNat)
        case atStart => exact ⟨0, by omega, (by have := pw_pos (ord l); omega), rfl, (by rw [show fewTo l n 0 = fullN l from rfl]; try rfl), hE⟩
        case round =>
          clear hE
          obtain ⟨k, hk0, hk, rfl, rfl, hE⟩ := hrel
          have hbx := hb _ hE
          by_cases hlt : k < pw (ord l)
          · have hbl := fewTo_lt l n k hk
            have hle : (k:Int) < (pw (ord l):Int) := by have := hP.out; omega
            have hk24 : k < 2 ^ 24 := by omega
            have hb24 : fewTo l n k < 2 ^ 24 := by omega
            have c1 := cnt_le k
            have c2 := cnt_le (fewTo l n k)
            by_cases hq : cnt k < cnt (fewTo l n k)
            · have hqi : decide (cnt k < cnt (fewTo l n k)) = true := by simp [hq]
              cases ht : covF l n k
              · have Hn := Lib.hid (fewTo_no' ht)
                go_wp2_with (first | (fail) | (go_at_call 69; (first | (with_reducible refine (bits_any _ hk24 _).mono ?_) | (with_reducible refine (bits_any _ hb24 _).mono ?_)); rintro e w' ⟨rfl, rfl⟩) | (go_at_call 43; refine (IsCovering_any _ _ _ _ _ (hg _ hE)).mono ?_; rintro e w' ⟨rfl, hE'⟩; replace hE := hE.trans hE'; clear hE'))
                go_roundw
                case rel => exact ⟨k + 1, by omega, by omega, by go_num, by rw [Hn.out], hE⟩
                case measure => (simp [intOf]; omega)
              · have Hn := Lib.hid (fewTo_yes hq ht)
                go_wp2_with (first | (fail) | (go_at_call 69; (first | (with_reducible refine (bits_any _ hk24 _).mono ?_) | (with_reducible refine (bits_any _ hb24 _).mono ?_)); rintro e w' ⟨rfl, rfl⟩) | (go_at_call 43; refine (IsCovering_any _ _ _ _ _ (hg _ hE)).mono ?_; rintro e w' ⟨rfl, hE'⟩; replace hE := hE.trans hE'; clear hE'))
                go_roundw
                case rel => exact ⟨k + 1, by omega, by omega, by go_num, by rw [Hn.out], hE⟩
                case measure => (simp [intOf]; omega)
            · have Hn := Lib.hid (fewTo_no hq)
              go_wp2_with (first | (fail) | (go_at_call 69; (first | (with_reducible refine (bits_any _ hk24 _).mono ?_) | (with_reducible refine (bits_any _ hb24 _).mono ?_)); rintro e w' ⟨rfl, rfl⟩))
              go_roundw
              case rel => exact ⟨k + 1, by omega, by omega, by go_num, by rw [Hn.out], hE⟩
              case measure => (simp [intOf]; omega)
          · have hkl : k = pw (ord l) := by omega
            have hgt : ¬ ((k:Int) < (pw (ord l):Int)) := by have := hP.out; omega
            subst hkl
            go_wp2_with (first | (fail))
            exact bodyPost_ret (v := .tuple #[.int .i64 (fewTo l n (pw (ord l)) : Int), .bool true]) (by simp [results, Try.results56, go_sem]) rfl ⟨by rw [Hr.out, Hs.out], hE0.trans hE⟩
      · have h10i : decide (10 < (ord l : Int)) = true := by simp; omega
        have Hs := Lib.hid (trB_ord (a := n) h10)
        go_enter Try.func56, Try.ntmps56
        go_wp2_with fail
        rw [← Hwb.out]
        go_wp2_with (first | (go_at_call 87; refine (IsSet_any _ _ _ _ (hg _ hE)).mono ?_; rintro e w' ⟨rfl, hE'⟩; replace hE := hE.trans hE'; clear hE') | (go_at_call 65; refine (OrderOf_grp _ _ _ (hg _ hE) (Hgr)).mono ?_; rintro e w' ⟨rfl, hE'⟩; replace hE := hE.trans hE'; clear hE'))
        exact bodyPost_ret (v := .tuple #[.int .i64 0, .bool false]) (by simp [results, Try.results56, go_sem]) rfl ⟨by rw [fewF_no Hs.out, Hs.out], hE0.trans hE⟩
theorem sFewestTranslates_any (v : Value) (l : List Int) (a : Int) (w : World) (h : Ints w v l) :
    Calls Try.prog 55 #[.agg #[v], .int .i64 a] w fun e w' => e = .returned (.tuple #[.int .i64 (fewF l a), .bool (trB l a)]) ∧ Ext w w' := by
  obtain ⟨wb, hwb⟩ : ∃ wb, wb = w.alloc (.cells #[v] 26) := ⟨_, rfl⟩
  have hE0 := (Ext.refl w).alloc (.cells #[v] 26)
  have hb := box_cell w v 26
  rw [← hwb] at hE0 hb
  have hg : ∀ W, Ext wb W → Ints W v l := fun W hW => h.ext (hE0.trans hW)
  have hE := Ext.refl wb
  have Hsz : Hid (w.heap.size + 1 = wb.heap.size) := Lib.hid (by rw [hwb]; simp [go_sem])
  have Hwb := Lib.hid hwb
  clear hwb h
  have hbx := hb wb hE
  cases hs : isSetB l a
  · have Hs := Lib.hid (trB_set hs)
    go_enter Try.func55, Try.ntmps55
    go_wp2_with fail
    rw [← Hwb.out]
    go_wp2_with (first | (go_at_call 76; refine (sIsSet_any _ _ _ _ (hg _ hE)).mono ?_; rintro e w' ⟨rfl, hE'⟩; replace hE := hE.trans hE'; clear hE'))
    exact bodyPost_ret (v := .tuple #[.int .i64 0, .bool false]) (by simp [results, Try.results55, go_sem]) rfl ⟨by rw [fewF_no Hs.out, Hs.out], hE0.trans hE⟩
  · obtain ⟨n, rfl, h1, h2, hgr⟩ := isSetB_nat hs
    by_cases h0 : n = 0
    · subst h0
      have Hs := Lib.hid (trB_zero l)
      go_enter Try.func55, Try.ntmps55
      go_wp2_with fail
      rw [← Hwb.out]
      go_wp2_with (first | (go_at_call 76; refine (sIsSet_any _ _ _ _ (hg _ hE)).mono ?_; rintro e w' ⟨rfl, hE'⟩; replace hE := hE.trans hE'; clear hE'))
      exact bodyPost_ret (v := .tuple #[.int .i64 0, .bool false]) (by simp [results, Try.results55, go_sem]) rfl ⟨by have h1 := Hs.out; have h2 := fewF_no Hs.out; simp_all, hE0.trans hE⟩
    · have h0' : ((n : Int) == 0) = false := by simp; omega
      have Hgr := Lib.hid hgr
      have hob := ord_bd hgr
      by_cases h10 : ord l ≤ 10
      · have h10i : decide (10 < (ord l : Int)) = false := by simp; omega
        have Hs := Lib.hid (trB_yes hs (by omega) h10)
        have Hr := Lib.hid (fewF_yes Hs.out)
        have hp2 := pw_le hob.2
        have hs0 := ishl_one (n := ord l) (by omega)
        have hP : Hid ((fullN l : Int) + 1 = (pw (ord l) : Int)) := Lib.hid (by unfold fullN; have := pw_pos (ord l); omega)
        have hfb : fullN l < 16777216 := by have := hP.out; omega
        have hP2 : Hid ((pw (ord l) : Int) - 1 = (fullN l : Int)) := Lib.hid (by have := hP.out; omega)
        clear hgr
        go_enter Try.func55, Try.ntmps55
        go_wp2_with fail
        rw [← Hwb.out]
        go_wp2_with (first | (go_at_call 76; refine (sIsSet_any _ _ _ _ (hg _ hE)).mono ?_; rintro e w' ⟨rfl, hE'⟩; replace hE := hE.trans hE'; clear hE') | (go_at_call 72; refine (l2Order_any _ _ _ (hg _ hE) (Hgr)).mono ?_; rintro e w' ⟨rfl, hE'⟩; replace hE := hE.trans hE'; clear hE'))
        rw [hP2.out]
        clear hs h0 h0' hbx
        go_loopw [6, 7] (fun bv xv wr => ∃ k : Nat, 1 ≤ k ∧ k ≤ pw (ord l) ∧ xv = .int .i64 k ∧ bv = .int .i64 (fewTo l n k : Int) ∧ Ext wb wr) (fun _ x _ => pw (ord l) - (intOf x).toNat)
        case atStart => exact ⟨1, by omega, (by have := pw_pos (ord l); omega), rfl, (by rw [fewTo_one Hgr.out]; try rfl), hE⟩
        case round =>
          clear hE
          obtain ⟨k, hk0, hk, rfl, rfl, hE⟩ := hrel
          have hbx := hb _ hE
          by_cases hlt : k < pw (ord l)
          · have hbl := fewTo_lt l n k hk
            have hle : (k:Int) < (pw (ord l):Int) := by have := hP.out; omega
            have hk24 : k < 2 ^ 24 := by omega
            have hb24 : fewTo l n k < 2 ^ 24 := by omega
            have c1 := cnt_le k
            have c2 := cnt_le (fewTo l n k)
            by_cases hq : cnt k < cnt (fewTo l n k)
            · have hqi : decide (cnt k < cnt (fewTo l n k)) = true := by simp [hq]
              cases ht : covF l n k
              · have Hn := Lib.hid (fewTo_no' ht)
                go_wp2_with (first | (go_at_call 72; refine (l2Order_any _ _ _ (hg _ hE) (Hgr)).mono ?_; rintro e w' ⟨rfl, hE'⟩; replace hE := hE.trans hE'; clear hE') | (go_at_call 74; (first | (with_reducible refine (l3Bits_any _ hk24 _).mono ?_) | (with_reducible refine (l3Bits_any _ hb24 _).mono ?_)); rintro e w' ⟨rfl, rfl⟩) | (go_at_call 41; refine (sIsCovering_any _ _ _ _ _ (hg _ hE)).mono ?_; rintro e w' ⟨rfl, hE'⟩; replace hE := hE.trans hE'; clear hE'))
                go_roundw
                case rel => exact ⟨k + 1, by omega, by omega, by go_num, by rw [Hn.out], hE⟩
                case measure => (simp [intOf]; omega)
              · have Hn := Lib.hid (fewTo_yes hq ht)
                go_wp2_with (first | (go_at_call 72; refine (l2Order_any _ _ _ (hg _ hE) (Hgr)).mono ?_; rintro e w' ⟨rfl, hE'⟩; replace hE := hE.trans hE'; clear hE') | (go_at_call 74; (first | (with_reducible refine (l3Bits_any _ hk24 _).mono ?_) | (with_reducible refine (l3Bits_any _ hb24 _).mono ?_)); rintro e w' ⟨rfl, rfl⟩) | (go_at_call 41; refine (sIsCovering_any _ _ _ _ _ (hg _ hE)).mono ?_; rintro e w' ⟨rfl, hE'⟩; replace hE := hE.trans hE'; clear hE'))
                go_roundw
                case rel => exact ⟨k + 1, by omega, by omega, by go_num, by rw [Hn.out], hE⟩
                case measure => (simp [intOf]; omega)
            · have Hn := Lib.hid (fewTo_no hq)
              go_wp2_with (first | (go_at_call 72; refine (l2Order_any _ _ _ (hg _ hE) (Hgr)).mono ?_; rintro e w' ⟨rfl, hE'⟩; replace hE := hE.trans hE'; clear hE') | (go_at_call 74; (first | (with_reducible refine (l3Bits_any _ hk24 _).mono ?_) | (with_reducible refine (l3Bits_any _ hb24 _).mono ?_)); rintro e w' ⟨rfl, rfl⟩))
              go_roundw
              case rel => exact ⟨k + 1, by omega, by omega, by go_num, by rw [Hn.out], hE⟩
              case measure => (simp [intOf]; omega)
          · have hkl : k = pw (ord l) := by omega
            have hgt : ¬ ((k:Int) < (pw (ord l):Int)) := by have := hP.out; omega
            subst hkl
            go_wp2_with (first | (go_at_call 72; refine (l2Order_any _ _ _ (hg _ hE) (Hgr)).mono ?_; rintro e w' ⟨rfl, hE'⟩; replace hE := hE.trans hE'; clear hE'))
            exact bodyPost_ret (v := .tuple #[.int .i64 (fewTo l n (pw (ord l)) : Int), .bool true]) (by simp [results, Try.results55, go_sem]) rfl ⟨by rw [Hr.out, Hs.out], hE0.trans hE⟩
      · have h10i : decide (10 < (ord l : Int)) = true := by simp; omega
        have Hs := Lib.hid (trB_ord (a := n) h10)
        go_enter Try.func55, Try.ntmps55
        go_wp2_with fail
        rw [← Hwb.out]
        go_wp2_with (first | (go_at_call 76; refine (sIsSet_any _ _ _ _ (hg _ hE)).mono ?_; rintro e w' ⟨rfl, hE'⟩; replace hE := hE.trans hE'; clear hE') | (go_at_call 72; refine (l2Order_any _ _ _ (hg _ hE) (Hgr)).mono ?_; rintro e w' ⟨rfl, hE'⟩; replace hE := hE.trans hE'; clear hE'))
        exact bodyPost_ret (v := .tuple #[.int .i64 0, .bool false]) (by simp [results, Try.results55, go_sem]) rfl ⟨by rw [fewF_no Hs.out, Hs.out], hE0.trans hE⟩
theorem MostTranslates_any (v : Value) (l : List Int) (a : Int) (w : World) (h : Ints w v l) :
    Calls Try.prog 58 #[.agg #[v], .int .i64 a] w fun e w' => e = .returned (.tuple #[.int .i64 (mostTF l a), .bool (trB l a)]) ∧ Ext w w' := by
  obtain ⟨wb, hwb⟩ : ∃ wb, wb = w.alloc (.cells #[v] 26) := ⟨_, rfl⟩
  have hE0 := (Ext.refl w).alloc (.cells #[v] 26)
  have hb := box_cell w v 26
  rw [← hwb] at hE0 hb
  have hg : ∀ W, Ext wb W → Ints W v l := fun W hW => h.ext (hE0.trans hW)
  have hE := Ext.refl wb
  have Hsz : Hid (w.heap.size + 1 = wb.heap.size) := Lib.hid (by rw [hwb]; simp [go_sem])
  have Hwb := Lib.hid hwb
  clear hwb h
  have hbx := hb wb hE
  cases hs : isSetB l a
  · have Hs := Lib.hid (trB_set hs)
    go_enter Try.func58, Try.ntmps58
    go_wp2_with fail
    rw [← Hwb.out]
    go_wp2_with (first | (go_at_call 87; refine (IsSet_any _ _ _ _ (hg _ hE)).mono ?_; rintro e w' ⟨rfl, hE'⟩; replace hE := hE.trans hE'; clear hE'))
    exact bodyPost_ret (v := .tuple #[.int .i64 0, .bool false]) (by simp [results, Try.results58, go_sem]) rfl ⟨by rw [mostTF_no Hs.out, Hs.out], hE0.trans hE⟩
  · obtain ⟨n, rfl, h1, h2, hgr⟩ := isSetB_nat hs
    by_cases h0 : n = 0
    · subst h0
      have Hs := Lib.hid (trB_zero l)
      go_enter Try.func58, Try.ntmps58
      go_wp2_with fail
      rw [← Hwb.out]
      go_wp2_with (first | (go_at_call 87; refine (IsSet_any _ _ _ _ (hg _ hE)).mono ?_; rintro e w' ⟨rfl, hE'⟩; replace hE := hE.trans hE'; clear hE'))
      exact bodyPost_ret (v := .tuple #[.int .i64 0, .bool false]) (by simp [results, Try.results58, go_sem]) rfl ⟨by have h1 := Hs.out; have h2 := mostTF_no Hs.out; simp_all, hE0.trans hE⟩
    · have h0' : ((n : Int) == 0) = false := by simp; omega
      have Hgr := Lib.hid hgr
      have hob := ord_bd hgr
      by_cases h10 : ord l ≤ 10
      · have h10i : decide (10 < (ord l : Int)) = false := by simp; omega
        have Hs := Lib.hid (trB_yes hs (by omega) h10)
        have Hr := Lib.hid (mostTF_yes Hs.out)
        have hp2 := pw_le hob.2
        have hs0 := ishl_one (n := ord l) (by omega)
        have hP : Hid ((fullN l : Int) + 1 = (pw (ord l) : Int)) := Lib.hid (by unfold fullN; have := pw_pos (ord l); omega)
        have hfb : fullN l < 16777216 := by have := hP.out; omega
        have hP2 : Hid ((pw (ord l) : Int) - 1 = (fullN l : Int)) := Lib.hid (by have := hP.out; omega)
        clear hgr
        go_enter Try.func58, Try.ntmps58
        go_wp2_with fail
        rw [← Hwb.out]
        go_wp2_with (first | (go_at_call 87; refine (IsSet_any _ _ _ _ (hg _ hE)).mono ?_; rintro e w' ⟨rfl, hE'⟩; replace hE := hE.trans hE'; clear hE') | (go_at_call 65; refine (OrderOf_grp _ _ _ (hg _ hE) (Hgr)).mono ?_; rintro e w' ⟨rfl, hE'⟩; replace hE := hE.trans hE'; clear hE'))
        skip
        clear hs h0 h0' hbx
        go_loopw [6, 7] (fun bv xv wr => ∃ k : Nat, 1 ≤ k ∧ k ≤ pw (ord l) ∧ xv = .int .i64 k ∧ bv = .int .i64 (mostTo l n k : Int) ∧ Ext wb wr) (fun _ x _ => pw (ord l) - (intOf x).toNat)
        case atStart => exact ⟨1, by omega, (by have := pw_pos (ord l); omega), rfl, (by rw [mostTo_one]; try rfl), hE⟩
        case round =>
          clear hE
          obtain ⟨k, hk0, hk, rfl, rfl, hE⟩ := hrel
          have hbx := hb _ hE
          by_cases hlt : k < pw (ord l)
          · have hbl := mostTo_lt l n k hk
            have hle : (k:Int) ≤ (fullN l:Int) := by have := hP.out; omega
            have hk24 : k < 2 ^ 24 := by omega
            have hb24 : mostTo l n k < 2 ^ 24 := by omega
            have c1 := cnt_le k
            have c2 := cnt_le (mostTo l n k)
            by_cases hq : cnt (mostTo l n k) < cnt k
            · have hqi : decide (cnt (mostTo l n k) < cnt k) = true := by simp [hq]
              cases ht : directF l n k
              · have Hn := Lib.hid (mostTo_no' ht)
                go_wp2_with (first | (go_at_call 86; refine (FullSet_grp _ _ _ (hg _ hE) (Hgr)).mono ?_; rintro e w' ⟨rfl, hE'⟩; replace hE := hE.trans hE'; clear hE') | (go_at_call 69; (first | (with_reducible refine (bits_any _ hk24 _).mono ?_) | (with_reducible refine (bits_any _ hb24 _).mono ?_)); rintro e w' ⟨rfl, rfl⟩) | (go_at_call 91; refine (IsDirect_any _ _ _ _ _ (hg _ hE)).mono ?_; rintro e w' ⟨rfl, hE'⟩; replace hE := hE.trans hE'; clear hE'))
                go_roundw
                case rel => exact ⟨k + 1, by omega, by omega, by go_num, by rw [Hn.out], hE⟩
                case measure => (simp [intOf]; omega)
              · have Hn := Lib.hid (mostTo_yes hq ht)
                go_wp2_with (first | (go_at_call 86; refine (FullSet_grp _ _ _ (hg _ hE) (Hgr)).mono ?_; rintro e w' ⟨rfl, hE'⟩; replace hE := hE.trans hE'; clear hE') | (go_at_call 69; (first | (with_reducible refine (bits_any _ hk24 _).mono ?_) | (with_reducible refine (bits_any _ hb24 _).mono ?_)); rintro e w' ⟨rfl, rfl⟩) | (go_at_call 91; refine (IsDirect_any _ _ _ _ _ (hg _ hE)).mono ?_; rintro e w' ⟨rfl, hE'⟩; replace hE := hE.trans hE'; clear hE'))
                go_roundw
                case rel => exact ⟨k + 1, by omega, by omega, by go_num, by rw [Hn.out], hE⟩
                case measure => (simp [intOf]; omega)
            · have Hn := Lib.hid (mostTo_no hq)
              go_wp2_with (first | (go_at_call 86; refine (FullSet_grp _ _ _ (hg _ hE) (Hgr)).mono ?_; rintro e w' ⟨rfl, hE'⟩; replace hE := hE.trans hE'; clear hE') | (go_at_call 69; (first | (with_reducible refine (bits_any _ hk24 _).mono ?_) | (with_reducible refine (bits_any _ hb24 _).mono ?_)); rintro e w' ⟨rfl, rfl⟩))
              go_roundw
              case rel => exact ⟨k + 1, by omega, by omega, by go_num, by rw [Hn.out], hE⟩
              case measure => (simp [intOf]; omega)
          · have hkl : k = pw (ord l) := by omega
            have hgt : ¬ ((k:Int) ≤ (fullN l:Int)) := by have := hP.out; omega
            subst hkl
            go_wp2_with (first | (go_at_call 86; refine (FullSet_grp _ _ _ (hg _ hE) (Hgr)).mono ?_; rintro e w' ⟨rfl, hE'⟩; replace hE := hE.trans hE'; clear hE'))
            exact bodyPost_ret (v := .tuple #[.int .i64 (mostTo l n (pw (ord l)) : Int), .bool true]) (by simp [results, Try.results58, go_sem]) rfl ⟨by rw [Hr.out, Hs.out], hE0.trans hE⟩
      · have h10i : decide (10 < (ord l : Int)) = true := by simp; omega
        have Hs := Lib.hid (trB_ord (a := n) h10)
        go_enter Try.func58, Try.ntmps58
        go_wp2_with fail
        rw [← Hwb.out]
        go_wp2_with (first | (go_at_call 87; refine (IsSet_any _ _ _ _ (hg _ hE)).mono ?_; rintro e w' ⟨rfl, hE'⟩; replace hE := hE.trans hE'; clear hE') | (go_at_call 65; refine (OrderOf_grp _ _ _ (hg _ hE) (Hgr)).mono ?_; rintro e w' ⟨rfl, hE'⟩; replace hE := hE.trans hE'; clear hE'))
        exact bodyPost_ret (v := .tuple #[.int .i64 0, .bool false]) (by simp [results, Try.results58, go_sem]) rfl ⟨by rw [mostTF_no Hs.out, Hs.out], hE0.trans hE⟩
theorem sMostTranslates_any (v : Value) (l : List Int) (a : Int) (w : World) (h : Ints w v l) :
    Calls Try.prog 57 #[.agg #[v], .int .i64 a] w fun e w' => e = .returned (.tuple #[.int .i64 (mostTF l a), .bool (trB l a)]) ∧ Ext w w' := by
  obtain ⟨wb, hwb⟩ : ∃ wb, wb = w.alloc (.cells #[v] 26) := ⟨_, rfl⟩
  have hE0 := (Ext.refl w).alloc (.cells #[v] 26)
  have hb := box_cell w v 26
  rw [← hwb] at hE0 hb
  have hg : ∀ W, Ext wb W → Ints W v l := fun W hW => h.ext (hE0.trans hW)
  have hE := Ext.refl wb
  have Hsz : Hid (w.heap.size + 1 = wb.heap.size) := Lib.hid (by rw [hwb]; simp [go_sem])
  have Hwb := Lib.hid hwb
  clear hwb h
  have hbx := hb wb hE
  cases hs : isSetB l a
  · have Hs := Lib.hid (trB_set hs)
    go_enter Try.func57, Try.ntmps57
    go_wp2_with fail
    rw [← Hwb.out]
    go_wp2_with (first | (go_at_call 76; refine (sIsSet_any _ _ _ _ (hg _ hE)).mono ?_; rintro e w' ⟨rfl, hE'⟩; replace hE := hE.trans hE'; clear hE'))
    exact bodyPost_ret (v := .tuple #[.int .i64 0, .bool false]) (by simp [results, Try.results57, go_sem]) rfl ⟨by rw [mostTF_no Hs.out, Hs.out], hE0.trans hE⟩
  · obtain ⟨n, rfl, h1, h2, hgr⟩ := isSetB_nat hs
    by_cases h0 : n = 0
    · subst h0
      have Hs := Lib.hid (trB_zero l)
      go_enter Try.func57, Try.ntmps57
      go_wp2_with fail
      rw [← Hwb.out]
      go_wp2_with (first | (go_at_call 76; refine (sIsSet_any _ _ _ _ (hg _ hE)).mono ?_; rintro e w' ⟨rfl, hE'⟩; replace hE := hE.trans hE'; clear hE'))
      exact bodyPost_ret (v := .tuple #[.int .i64 0, .bool false]) (by simp [results, Try.results57, go_sem]) rfl ⟨by have h1 := Hs.out; have h2 := mostTF_no Hs.out; simp_all, hE0.trans hE⟩
    · have h0' : ((n : Int) == 0) = false := by simp; omega
      have Hgr := Lib.hid hgr
      have hob := ord_bd hgr
      by_cases h10 : ord l ≤ 10
      · have h10i : decide (10 < (ord l : Int)) = false := by simp; omega
        have Hs := Lib.hid (trB_yes hs (by omega) h10)
        have Hr := Lib.hid (mostTF_yes Hs.out)
        have hp2 := pw_le hob.2
        have hs0 := ishl_one (n := ord l) (by omega)
        have hP : Hid ((fullN l : Int) + 1 = (pw (ord l) : Int)) := Lib.hid (by unfold fullN; have := pw_pos (ord l); omega)
        have hfb : fullN l < 16777216 := by have := hP.out; omega
        have hP2 : Hid ((pw (ord l) : Int) - 1 = (fullN l : Int)) := Lib.hid (by have := hP.out; omega)
        clear hgr
        go_enter Try.func57, Try.ntmps57
        go_wp2_with fail
        rw [← Hwb.out]
        go_wp2_with (first | (go_at_call 76; refine (sIsSet_any _ _ _ _ (hg _ hE)).mono ?_; rintro e w' ⟨rfl, hE'⟩; replace hE := hE.trans hE'; clear hE') | (go_at_call 72; refine (l2Order_any _ _ _ (hg _ hE) (Hgr)).mono ?_; rintro e w' ⟨rfl, hE'⟩; replace hE := hE.trans hE'; clear hE'))
        skip
        clear hs h0 h0' hbx
        go_loopw [6, 7] (fun bv xv wr => ∃ k : Nat, 1 ≤ k ∧ k ≤ pw (ord l) ∧ xv = .int .i64 k ∧ bv = .int .i64 (mostTo l n k : Int) ∧ Ext wb wr) (fun _ x _ => pw (ord l) - (intOf x).toNat)
        case atStart => exact ⟨1, by omega, (by have := pw_pos (ord l); omega), rfl, (by rw [mostTo_one]; try rfl), hE⟩
        case round =>
          clear hE
          obtain ⟨k, hk0, hk, rfl, rfl, hE⟩ := hrel
          have hbx := hb _ hE
          by_cases hlt : k < pw (ord l)
          · have hbl := mostTo_lt l n k hk
            have hle : (k:Int) < (pw (ord l):Int) := by have := hP.out; omega
            have hk24 : k < 2 ^ 24 := by omega
            have hb24 : mostTo l n k < 2 ^ 24 := by omega
            have c1 := cnt_le k
            have c2 := cnt_le (mostTo l n k)
            by_cases hq : cnt (mostTo l n k) < cnt k
            · have hqi : decide (cnt (mostTo l n k) < cnt k) = true := by simp [hq]
              cases ht : directF l n k
              · have Hn := Lib.hid (mostTo_no' ht)
                go_wp2_with (first | (go_at_call 72; refine (l2Order_any _ _ _ (hg _ hE) (Hgr)).mono ?_; rintro e w' ⟨rfl, hE'⟩; replace hE := hE.trans hE'; clear hE') | (go_at_call 74; (first | (with_reducible refine (l3Bits_any _ hk24 _).mono ?_) | (with_reducible refine (l3Bits_any _ hb24 _).mono ?_)); rintro e w' ⟨rfl, rfl⟩) | (go_at_call 90; refine (sIsDirect_any _ _ _ _ _ (hg _ hE)).mono ?_; rintro e w' ⟨rfl, hE'⟩; replace hE := hE.trans hE'; clear hE'))
                go_roundw
                case rel => exact ⟨k + 1, by omega, by omega, by go_num, by rw [Hn.out], hE⟩
                case measure => (simp [intOf]; omega)
              · have Hn := Lib.hid (mostTo_yes hq ht)
                go_wp2_with (first | (go_at_call 72; refine (l2Order_any _ _ _ (hg _ hE) (Hgr)).mono ?_; rintro e w' ⟨rfl, hE'⟩; replace hE := hE.trans hE'; clear hE') | (go_at_call 74; (first | (with_reducible refine (l3Bits_any _ hk24 _).mono ?_) | (with_reducible refine (l3Bits_any _ hb24 _).mono ?_)); rintro e w' ⟨rfl, rfl⟩) | (go_at_call 90; refine (sIsDirect_any _ _ _ _ _ (hg _ hE)).mono ?_; rintro e w' ⟨rfl, hE'⟩; replace hE := hE.trans hE'; clear hE'))
                go_roundw
                case rel => exact ⟨k + 1, by omega, by omega, by go_num, by rw [Hn.out], hE⟩
                case measure => (simp [intOf]; omega)
            · have Hn := Lib.hid (mostTo_no hq)
              go_wp2_with (first | (go_at_call 72; refine (l2Order_any _ _ _ (hg _ hE) (Hgr)).mono ?_; rintro e w' ⟨rfl, hE'⟩; replace hE := hE.trans hE'; clear hE') | (go_at_call 74; (first | (with_reducible refine (l3Bits_any _ hk24 _).mono ?_) | (with_reducible refine (l3Bits_any _ hb24 _).mono ?_)); rintro e w' ⟨rfl, rfl⟩))
              go_roundw
              case rel => exact ⟨k + 1, by omega, by omega, by go_num, by rw [Hn.out], hE⟩
              case measure => (simp [intOf]; omega)
          · have hkl : k = pw (ord l) := by omega
            have hgt : ¬ ((k:Int) < (pw (ord l):Int)) := by have := hP.out; omega
            subst hkl
            go_wp2_with (first | (go_at_call 72; refine (l2Order_any _ _ _ (hg _ hE) (Hgr)).mono ?_; rintro e w' ⟨rfl, hE'⟩; replace hE := hE.trans hE'; clear hE'))
            exact bodyPost_ret (v := .tuple #[.int .i64 (mostTo l n (pw (ord l)) : Int), .bool true]) (by simp [results, Try.results57, go_sem]) rfl ⟨by rw [Hr.out, Hs.out], hE0.trans hE⟩
      · have h10i : decide (10 < (ord l : Int)) = true := by simp; omega
        have Hs := Lib.hid (trB_ord (a := n) h10)
        go_enter Try.func57, Try.ntmps57
        go_wp2_with fail
        rw [← Hwb.out]
        go_wp2_with (first | (go_at_call 76; refine (sIsSet_any _ _ _ _ (hg _ hE)).mono ?_; rintro e w' ⟨rfl, hE'⟩; replace hE := hE.trans hE'; clear hE') | (go_at_call 72; refine (l2Order_any _ _ _ (hg _ hE) (Hgr)).mono ?_; rintro e w' ⟨rfl, hE'⟩; replace hE := hE.trans hE'; clear hE'))
        exact bodyPost_ret (v := .tuple #[.int .i64 0, .bool false]) (by simp [results, Try.results57, go_sem]) rfl ⟨by rw [mostTF_no Hs.out, Hs.out], hE0.trans hE⟩
end Go.Zz
