/- Least expansions. -/
import Derived.Test.YtgjomoedgmofbaaC32
namespace Go.Zz
open Go.RowKit Go.Proofs
set_option maxHeartbeats 400000

def leStep (l : List Int) (a : Nat) (p : Nat × Nat) (x : Nat) : Nat × Nat :=
  if ord l < 2 * cnt x then p else if p.2 = 0 ∨ bdN l a x * p.2 < p.1 * cnt x then (bdN l a x, cnt x) else p
def leTo (l : List Int) (a : Nat) : Nat → Nat × Nat
  | 0 => (0, 0)
  | k + 1 => leStep l a (leTo l a k) (k + 1)
theorem leTo_succ (l : List Int) (a k : Nat) : leTo l a (k + 1) = leStep l a (leTo l a k) (k + 1) := rfl
theorem leStep_big {l : List Int} {a x : Nat} {p : Nat × Nat} (h : ord l < 2 * cnt x) : leStep l a p x = p := if_pos h
theorem leStep_yes {l : List Int} {a x : Nat} {p : Nat × Nat} (h : ¬ ord l < 2 * cnt x) (h2 : p.2 = 0 ∨ bdN l a x * p.2 < p.1 * cnt x) : leStep l a p x = (bdN l a x, cnt x) := by unfold leStep; rw [if_neg h, if_pos h2]
theorem leStep_no {l : List Int} {a x : Nat} {p : Nat × Nat} (h : ¬ ord l < 2 * cnt x) (h2 : ¬ (p.2 = 0 ∨ bdN l a x * p.2 < p.1 * cnt x)) : leStep l a p x = p := by unfold leStep; rw [if_neg h, if_neg h2]
theorem leTo_bd (l : List Int) (a : Nat) : ∀ k, (leTo l a k).1 ≤ 576 ∧ (leTo l a k).2 ≤ 24
  | 0 => by simp [leTo]
  | k + 1 => by
    have ih := leTo_bd l a k
    rw [leTo_succ]
    unfold leStep
    split
    · exact ih
    · split
      · exact ⟨bdN_le _ _ _, cnt_le _⟩
      · exact ih
theorem leTo_pos {l : List Int} (h : 2 ≤ ord l) (a : Nat) : ∀ k, 1 ≤ k → k < 2 ^ 24 → (leTo l a k).2 ≠ 0
  | 0, h1, _ => by omega
  | k + 1, _, hk => by
    rw [leTo_succ]
    by_cases h0 : k = 0
    · subst h0
      have c1 : cnt 1 = 1 := by decide
      rw [leStep_yes (by rw [c1]; omega) (Or.inl rfl)]
      show cnt 1 ≠ 0
      rw [c1]; omega
    · have ih := leTo_pos h a k (by omega) (by omega)
      have hp := cnt_pos (show 0 < k + 1 by omega) hk
      unfold leStep
      split
      · exact ih
      · split
        · show cnt (k + 1) ≠ 0; omega
        · exact ih
def leB (l : List Int) (a : Int) : Bool := connB l a && inB (ord l) 2 10
theorem leB_no {l : List Int} {a : Int} (h : connB l a = false) : leB l a = false := by unfold leB; rw [h]; rfl
theorem leB_out {l : List Int} {a : Int} (h : inB (ord l) 2 10 = false) : leB l a = false := by unfold leB; rw [h]; simp
theorem leB_yes {l : List Int} {a : Int} (h : connB l a = true) (h2 : inB (ord l) 2 10 = true) : leB l a = true := by unfold leB; rw [h, h2]; rfl
def leR (l : List Int) (a : Nat) : Nat × Nat := leTo l a (fullN l)
def leG (l : List Int) (a : Nat) : Nat := Nat.gcd (leR l a).1 (leR l a).2
def leM (l : List Int) (a : Int) : Int := if leB l a then (((leR l a.toNat).1 / leG l a.toNat : Nat) : Int) else 0
def leN (l : List Int) (a : Int) : Int := if leB l a then (((leR l a.toNat).2 / leG l a.toNat : Nat) : Int) else 0
theorem le_no {l : List Int} {a : Int} (h : leB l a = false) : leM l a = 0 ∧ leN l a = 0 := by unfold leM leN; rw [h]; exact ⟨rfl, rfl⟩
theorem le_yes {l : List Int} {n : Nat} (h : leB l n = true) : leM l n = (((leR l n).1 / leG l n : Nat) : Int) ∧ leN l n = (((leR l n).2 / leG l n : Nat) : Int) := by unfold leM leN; rw [h]; exact ⟨rfl, rfl⟩
theorem prod_nat {a b A B : Nat} (ha : a ≤ A) (hb : b ≤ B) : 0 ≤ (a : Int) * (b : Int) ∧ (a : Int) * (b : Int) ≤ (A * B : Nat) := by
  have := Nat.mul_le_mul ha hb
  rw [← Int.natCast_mul]; exact ⟨Int.natCast_nonneg _, Int.ofNat_le.2 this⟩

theorem LeastExpansion_any (v : Value) (l : List Int) (a : Int) (w : World) (h : Ints w v l) :
    Calls Try.prog 96 #[.agg #[v], .int .i64 a] w fun e w' => e = .returned (.tuple #[.int .i64 (leM l a), .int .i64 (leN l a), .bool (leB l a)]) ∧ Ext w w' := by
  obtain ⟨wb, hwb⟩ : ∃ wb, wb = w.alloc (.cells #[v] 26) := ⟨_, rfl⟩
  have hE0 := (Ext.refl w).alloc (.cells #[v] 26)
  have hb := box_cell w v 26
  rw [← hwb] at hE0 hb
  have hg : ∀ W, Ext wb W → Ints W v l := fun W hW => h.ext (hE0.trans hW)
  have hE := Ext.refl wb
  have Hsz : Hid (w.heap.size + 1 = wb.heap.size) := Lib.hid (by rw [hwb]; simp [go_sem])
  have Hwb := Lib.hid hwb
  clear hwb h
  have hbx := hb wb hE
  cases hc : connB l a
  · have Hs := Lib.hid (leB_no hc)
    go_enter Try.func96, Try.ntmps96
    go_wp2_with fail
    rw [← Hwb.out]
    go_wp2_with (first | (go_at_call 92; refine (IsConnection_val _ _ _ _ (hg _ hE) (hc)).mono ?_; rintro e w' ⟨rfl, hE'⟩; replace hE := hE.trans hE'; clear hE'))
    exact bodyPost_ret (v := .tuple #[.int .i64 0, .int .i64 0, .bool false]) (by simp [results, Try.results96, go_sem]) rfl ⟨by rw [(le_no Hs.out).1, (le_no Hs.out).2, Hs.out], hE0.trans hE⟩
  · obtain ⟨n, rfl, h1, h2, hgr⟩ := connB_nat hc
    have Hgr := Lib.hid hgr
    have hob := ord_bd hgr
    cases hin : inB (ord l) 2 10
    · have Hs := Lib.hid (leB_out (a := n) hin)
      go_enter Try.func96, Try.ntmps96
      go_wp2_with fail
      rw [← Hwb.out]
      go_wp2_with (first | (go_at_call 92; refine (IsConnection_val _ _ _ _ (hg _ hE) (hc)).mono ?_; rintro e w' ⟨rfl, hE'⟩; replace hE := hE.trans hE'; clear hE') | (go_at_call 108; refine (OrderOf_grp _ _ _ (hg _ hE) (Hgr)).mono ?_; rintro e w' ⟨rfl, hE'⟩; replace hE := hE.trans hE'; clear hE') | (go_at_call 110; refine (within_any _ _ _ _).mono ?_; rintro e w' ⟨rfl, rfl⟩))
      exact bodyPost_ret (v := .tuple #[.int .i64 0, .int .i64 0, .bool false]) (by simp [results, Try.results96, go_sem]) rfl ⟨by rw [(le_no Hs.out).1, (le_no Hs.out).2, Hs.out], hE0.trans hE⟩
    · have Hs := Lib.hid (leB_yes hc hin)
      have Hr := Lib.hid (le_yes Hs.out)
      have hin2 := (inB_t.1 hin).1
      have ho2 : 2 ≤ ord l := by omega
      have hfp : 1 ≤ fullN l := by
        unfold fullN pw
        have : 2 ^ 1 ≤ 2 ^ ord l := Nat.pow_le_pow_right (by omega) hob.1
        omega
      have hfl := fullN_lt l
      have hpo := pow_ord hgr
      have hP : Hid ((fullN l : Int) + 1 = (pw (ord l) : Int)) := Lib.hid (by unfold fullN; have := pw_pos (ord l); omega)
      have HR0 := Lib.hid (leTo_pos ho2 n (fullN l) hfp (by omega))
      have HRb := Lib.hid (leTo_bd l n (fullN l))
      clear hgr hin2
      go_enter Try.func96, Try.ntmps96
      go_wp2_with fail
      rw [← Hwb.out]
      go_wp2_with (first | (go_at_call 92; refine (IsConnection_val _ _ _ _ (hg _ hE) (hc)).mono ?_; rintro e w' ⟨rfl, hE'⟩; replace hE := hE.trans hE'; clear hE') | (go_at_call 108; refine (OrderOf_grp _ _ _ (hg _ hE) (Hgr)).mono ?_; rintro e w' ⟨rfl, hE'⟩; replace hE := hE.trans hE'; clear hE') | (go_at_call 110; refine (within_any _ _ _ _).mono ?_; rintro e w' ⟨rfl, rfl⟩))
      clear hbx hin
      go_loopw [7, 8, 9] (fun mv nv xv wr => ∃ k : Nat, k ≤ fullN l ∧ xv = .int .i64 ((k : Int) + 1) ∧ mv = .int .i64 ((leTo l n k).1 : Int) ∧ nv = .int .i64 ((leTo l n k).2 : Int) ∧ Ext wb wr) (fun _ _ x _ => fullN l + 1 - (intOf x).toNat)
      case atStart => exact ⟨0, by omega, rfl, rfl, rfl, hE⟩
      case round =>
        clear hE
        obtain ⟨k, hk, rfl, rfl, rfl, hE⟩ := hrel
        have hbx := hb _ hE
        by_cases hlt : k < fullN l
        · have hle : (k : Int) + 1 ≤ (fullN l : Int) := by omega
          have hpk : k + 1 < pw (ord l) := by have := hP.out; omega
          ·
            have hbd := leTo_bd l n k
            have hk24 : k + 1 < 2 ^ 24 := by omega
            have hks : isSetB l ((k + 1 : Nat) : Int) = true := isSetB_of Hgr.out (by rw [← pw_eq]; omega)
            have Hcst : Hid ((k : Int) + 1 = ((k + 1 : Nat) : Int)) := Lib.hid (by push_cast; rfl)
            have hcl := cnt_le (k + 1)
            have hbl := bdN_le l n (k + 1)
            have Hsu := Lib.hid (leTo_succ l n k)
            obtain ⟨p1, p2⟩ := prod_nat hbl hbd.2
            obtain ⟨q1, q2⟩ := prod_nat hbd.1 hcl
            by_cases hbig : ord l < 2 * cnt (k + 1)
            · have Hst := Lib.hid (leStep_big (a := n) (p := leTo l n k) hbig)
              have hbi : decide ((ord l : Int) < 2 * (cnt (k + 1) : Int)) = true := by simp; omega
              go_wp2_with (first | (go_at_call 155; refine (FullSet_grp _ _ _ (hg _ hE) (Hgr)).mono ?_; rintro e w' ⟨rfl, hE'⟩; replace hE := hE.trans hE'; clear hE') | (go_at_call 112; rw [Hcst.out]; refine (bits_any _ hk24 _).mono ?_; rintro e w' ⟨rfl, rfl⟩) | (go_at_call 108; refine (OrderOf_grp _ _ _ (hg _ hE) (Hgr)).mono ?_; rintro e w' ⟨rfl, hE'⟩; replace hE := hE.trans hE'; clear hE'))
              go_roundw
              case rel => exact ⟨k + 1, by omega, by go_num, by rw [Hsu.out, Hst.out], by rw [Hsu.out, Hst.out], hE⟩
              case measure => (simp [intOf]; omega)
            · have hbi : decide ((ord l : Int) < 2 * (cnt (k + 1) : Int)) = false := by simp; omega
              by_cases hz : (leTo l n k).2 = 0
              · have Hst := Lib.hid (leStep_yes (a := n) (p := leTo l n k) hbig (Or.inl hz))
                have hzi : (((leTo l n k).2 : Int) == 0) = true := by simp [hz]
                clear hz
                go_wp2_with (first | (go_at_call 155; refine (FullSet_grp _ _ _ (hg _ hE) (Hgr)).mono ?_; rintro e w' ⟨rfl, hE'⟩; replace hE := hE.trans hE'; clear hE') | (go_at_call 112; rw [Hcst.out]; refine (bits_any _ hk24 _).mono ?_; rintro e w' ⟨rfl, rfl⟩) | (go_at_call 108; refine (OrderOf_grp _ _ _ (hg _ hE) (Hgr)).mono ?_; rintro e w' ⟨rfl, hE'⟩; replace hE := hE.trans hE'; clear hE') | (go_at_call 85; rw [Hcst.out]; refine (BoundaryOf_nat _ _ _ _ _ (hg _ hE) hc hks).mono ?_; rintro e w' ⟨rfl, hE'⟩; replace hE := hE.trans hE'; clear hE'))
                go_roundw
                case rel => exact ⟨k + 1, by omega, by go_num, by rw [Hsu.out, Hst.out], by rw [Hsu.out, Hst.out], hE⟩
                case measure => (simp [intOf]; omega)
              · have hzi : (((leTo l n k).2 : Int) == 0) = false := by simp; omega
                by_cases hq : bdN l n (k + 1) * (leTo l n k).2 < (leTo l n k).1 * cnt (k + 1)
                · have Hst := Lib.hid (leStep_yes (a := n) (p := leTo l n k) hbig (Or.inr hq))
                  have hqi : (bdN l n (k + 1) : Int) * ((leTo l n k).2 : Int) < ((leTo l n k).1 : Int) * (cnt (k + 1) : Int) := by rw [← Int.natCast_mul, ← Int.natCast_mul]; exact Int.ofNat_lt.2 hq
                  clear hq hz
                  go_wp2_with (first | (go_at_call 155; refine (FullSet_grp _ _ _ (hg _ hE) (Hgr)).mono ?_; rintro e w' ⟨rfl, hE'⟩; replace hE := hE.trans hE'; clear hE') | (go_at_call 112; rw [Hcst.out]; refine (bits_any _ hk24 _).mono ?_; rintro e w' ⟨rfl, rfl⟩) | (go_at_call 108; refine (OrderOf_grp _ _ _ (hg _ hE) (Hgr)).mono ?_; rintro e w' ⟨rfl, hE'⟩; replace hE := hE.trans hE'; clear hE') | (go_at_call 85; rw [Hcst.out]; refine (BoundaryOf_nat _ _ _ _ _ (hg _ hE) hc hks).mono ?_; rintro e w' ⟨rfl, hE'⟩; replace hE := hE.trans hE'; clear hE'))
                  go_roundw
                  case rel => exact ⟨k + 1, by omega, by go_num, by rw [Hsu.out, Hst.out], by rw [Hsu.out, Hst.out], hE⟩
                  case measure => (simp [intOf]; omega)
                · have Hst := Lib.hid (leStep_no (a := n) (p := leTo l n k) hbig (fun e => e.elim hz hq))
                  have hqi : ¬ (bdN l n (k + 1) : Int) * ((leTo l n k).2 : Int) < ((leTo l n k).1 : Int) * (cnt (k + 1) : Int) := by rw [← Int.natCast_mul, ← Int.natCast_mul]; exact fun e => hq (Int.ofNat_lt.1 e)
                  clear hq hz
                  go_wp2_with (first | (go_at_call 155; refine (FullSet_grp _ _ _ (hg _ hE) (Hgr)).mono ?_; rintro e w' ⟨rfl, hE'⟩; replace hE := hE.trans hE'; clear hE') | (go_at_call 112; rw [Hcst.out]; refine (bits_any _ hk24 _).mono ?_; rintro e w' ⟨rfl, rfl⟩) | (go_at_call 108; refine (OrderOf_grp _ _ _ (hg _ hE) (Hgr)).mono ?_; rintro e w' ⟨rfl, hE'⟩; replace hE := hE.trans hE'; clear hE') | (go_at_call 85; rw [Hcst.out]; refine (BoundaryOf_nat _ _ _ _ _ (hg _ hE) hc hks).mono ?_; rintro e w' ⟨rfl, hE'⟩; replace hE := hE.trans hE'; clear hE'))
                  go_roundw
                  case rel => exact ⟨k + 1, by omega, by go_num, by rw [Hsu.out, Hst.out], by rw [Hsu.out, Hst.out], hE⟩
                  case measure => (simp [intOf]; omega)
        · have hkl : k = fullN l := by omega
          subst hkl
          have hgt : ¬ (fullN l : Int) + 1 ≤ (fullN l : Int) := by omega
          have h0 := HR0.out
          have hbd := HRb.out
          go_wp2_with (first | (go_at_call 155; refine (FullSet_grp _ _ _ (hg _ hE) (Hgr)).mono ?_; rintro e w' ⟨rfl, hE'⟩; replace hE := hE.trans hE'; clear hE') | (go_at_call 179; refine (lowest_any _ _ (by omega) (by omega) h0 _).mono ?_; rintro e w' ⟨rfl, hE'⟩; replace hE := hE.trans hE'; clear hE'))
          exact bodyPost_ret (v := .tuple #[.int .i64 (((leR l n).1 / leG l n : Nat) : Int), .int .i64 (((leR l n).2 / leG l n : Nat) : Int), .bool true]) (by simp [results, Try.results96, go_sem, leR, leG]) rfl ⟨by rw [Hr.out.1, Hr.out.2, Hs.out], hE0.trans hE⟩
theorem sLeastExpansion_any (v : Value) (l : List Int) (a : Int) (w : World) (h : Ints w v l) :
    Calls Try.prog 97 #[.agg #[v], .int .i64 a] w fun e w' => e = .returned (.tuple #[.int .i64 (leM l a), .int .i64 (leN l a), .bool (leB l a)]) ∧ Ext w w' := by
  obtain ⟨wb, hwb⟩ : ∃ wb, wb = w.alloc (.cells #[v] 26) := ⟨_, rfl⟩
  have hE0 := (Ext.refl w).alloc (.cells #[v] 26)
  have hb := box_cell w v 26
  rw [← hwb] at hE0 hb
  have hg : ∀ W, Ext wb W → Ints W v l := fun W hW => h.ext (hE0.trans hW)
  have hE := Ext.refl wb
  have Hsz : Hid (w.heap.size + 1 = wb.heap.size) := Lib.hid (by rw [hwb]; simp [go_sem])
  have Hwb := Lib.hid hwb
  clear hwb h
  have hbx := hb wb hE
  cases hc : connB l a
  · have Hs := Lib.hid (leB_no hc)
    go_enter Try.func97, Try.ntmps97
    go_wp2_with fail
    rw [← Hwb.out]
    go_wp2_with (first | (go_at_call 165; refine (sIsConnection_val _ _ _ _ (hg _ hE) (hc)).mono ?_; rintro e w' ⟨rfl, hE'⟩; replace hE := hE.trans hE'; clear hE'))
    exact bodyPost_ret (v := .tuple #[.int .i64 0, .int .i64 0, .bool false]) (by simp [results, Try.results97, go_sem]) rfl ⟨by rw [(le_no Hs.out).1, (le_no Hs.out).2, Hs.out], hE0.trans hE⟩
  · obtain ⟨n, rfl, h1, h2, hgr⟩ := connB_nat hc
    have Hgr := Lib.hid hgr
    have hob := ord_bd hgr
    cases hin : inB (ord l) 2 10
    · have Hs := Lib.hid (leB_out (a := n) hin)
      go_enter Try.func97, Try.ntmps97
      go_wp2_with fail
      rw [← Hwb.out]
      go_wp2_with (first | (go_at_call 165; refine (sIsConnection_val _ _ _ _ (hg _ hE) (hc)).mono ?_; rintro e w' ⟨rfl, hE'⟩; replace hE := hE.trans hE'; clear hE') | (go_at_call 115; refine (l2Order_any _ _ _ (hg _ hE) (Hgr)).mono ?_; rintro e w' ⟨rfl, hE'⟩; replace hE := hE.trans hE'; clear hE') | (go_at_call 116; refine (l1In_any _ _ _ _).mono ?_; rintro e w' ⟨rfl, rfl⟩))
      exact bodyPost_ret (v := .tuple #[.int .i64 0, .int .i64 0, .bool false]) (by simp [results, Try.results97, go_sem]) rfl ⟨by rw [(le_no Hs.out).1, (le_no Hs.out).2, Hs.out], hE0.trans hE⟩
    · have Hs := Lib.hid (leB_yes hc hin)
      have Hr := Lib.hid (le_yes Hs.out)
      have hin2 := (inB_t.1 hin).1
      have ho2 : 2 ≤ ord l := by omega
      have hfp : 1 ≤ fullN l := by
        unfold fullN pw
        have : 2 ^ 1 ≤ 2 ^ ord l := Nat.pow_le_pow_right (by omega) hob.1
        omega
      have hfl := fullN_lt l
      have hpo := pow_ord hgr
      have hP : Hid ((fullN l : Int) + 1 = (pw (ord l) : Int)) := Lib.hid (by unfold fullN; have := pw_pos (ord l); omega)
      have HR0 := Lib.hid (leTo_pos ho2 n (fullN l) hfp (by omega))
      have HRb := Lib.hid (leTo_bd l n (fullN l))
      clear hgr hin2
      go_enter Try.func97, Try.ntmps97
      go_wp2_with fail
      rw [← Hwb.out]
      go_wp2_with (first | (go_at_call 165; refine (sIsConnection_val _ _ _ _ (hg _ hE) (hc)).mono ?_; rintro e w' ⟨rfl, hE'⟩; replace hE := hE.trans hE'; clear hE') | (go_at_call 115; refine (l2Order_any _ _ _ (hg _ hE) (Hgr)).mono ?_; rintro e w' ⟨rfl, hE'⟩; replace hE := hE.trans hE'; clear hE') | (go_at_call 116; refine (l1In_any _ _ _ _).mono ?_; rintro e w' ⟨rfl, rfl⟩))
      clear hbx hin
      have hs0 := ishl_one (n := ord l) (by omega)
      have hp2 := pw_le hob.2
      go_loopw [7, 8, 9] (fun mv nv xv wr => ∃ k : Nat, k ≤ fullN l ∧ xv = .int .i64 ((k : Int) + 1) ∧ mv = .int .i64 ((leTo l n k).1 : Int) ∧ nv = .int .i64 ((leTo l n k).2 : Int) ∧ Ext wb wr) (fun _ _ x _ => fullN l + 1 - (intOf x).toNat)
      case atStart => exact ⟨0, by omega, rfl, rfl, rfl, hE⟩
      case round =>
        clear hE
        obtain ⟨k, hk, rfl, rfl, rfl, hE⟩ := hrel
        have hbx := hb _ hE
        by_cases hlt : k < fullN l
        · have hle : (k : Int) + 1 < (pw (ord l) : Int) := by have := hP.out; omega
          have hpk : k + 1 < pw (ord l) := by have := hP.out; omega
          ·
            have hbd := leTo_bd l n k
            have hk24 : k + 1 < 2 ^ 24 := by omega
            have hks : isSetB l ((k + 1 : Nat) : Int) = true := isSetB_of Hgr.out (by rw [← pw_eq]; omega)
            have Hcst : Hid ((k : Int) + 1 = ((k + 1 : Nat) : Int)) := Lib.hid (by push_cast; rfl)
            have hcl := cnt_le (k + 1)
            have hbl := bdN_le l n (k + 1)
            have Hsu := Lib.hid (leTo_succ l n k)
            obtain ⟨p1, p2⟩ := prod_nat hbl hbd.2
            obtain ⟨q1, q2⟩ := prod_nat hbd.1 hcl
            by_cases hbig : ord l < 2 * cnt (k + 1)
            · have Hst := Lib.hid (leStep_big (a := n) (p := leTo l n k) hbig)
              have hbi : decide ((ord l : Int) < 2 * (cnt (k + 1) : Int)) = true := by simp; omega
              go_wp2_with (first | (go_at_call 115; refine (l2Order_any _ _ _ (hg _ hE) (Hgr)).mono ?_; rintro e w' ⟨rfl, hE'⟩; replace hE := hE.trans hE'; clear hE') | (go_at_call 117; rw [Hcst.out]; refine (l3Bits_any _ hk24 _).mono ?_; rintro e w' ⟨rfl, rfl⟩) | (go_at_call 115; refine (l2Order_any _ _ _ (hg _ hE) (Hgr)).mono ?_; rintro e w' ⟨rfl, hE'⟩; replace hE := hE.trans hE'; clear hE'))
              go_roundw
              case rel => exact ⟨k + 1, by omega, by go_num, by rw [Hsu.out, Hst.out], by rw [Hsu.out, Hst.out], hE⟩
              case measure => (simp [intOf]; omega)
            · have hbi : decide ((ord l : Int) < 2 * (cnt (k + 1) : Int)) = false := by simp; omega
              by_cases hz : (leTo l n k).2 = 0
              · have Hst := Lib.hid (leStep_yes (a := n) (p := leTo l n k) hbig (Or.inl hz))
                have hzi : (((leTo l n k).2 : Int) == 0) = true := by simp [hz]
                clear hz
                go_wp2_with (first | (go_at_call 115; refine (l2Order_any _ _ _ (hg _ hE) (Hgr)).mono ?_; rintro e w' ⟨rfl, hE'⟩; replace hE := hE.trans hE'; clear hE') | (go_at_call 117; rw [Hcst.out]; refine (l3Bits_any _ hk24 _).mono ?_; rintro e w' ⟨rfl, rfl⟩) | (go_at_call 115; refine (l2Order_any _ _ _ (hg _ hE) (Hgr)).mono ?_; rintro e w' ⟨rfl, hE'⟩; replace hE := hE.trans hE'; clear hE') | (go_at_call 86; rw [Hcst.out]; refine (sBoundaryOf_nat _ _ _ _ _ (hg _ hE) hc hks).mono ?_; rintro e w' ⟨rfl, hE'⟩; replace hE := hE.trans hE'; clear hE'))
                go_roundw
                case rel => exact ⟨k + 1, by omega, by go_num, by rw [Hsu.out, Hst.out], by rw [Hsu.out, Hst.out], hE⟩
                case measure => (simp [intOf]; omega)
              · have hzi : (((leTo l n k).2 : Int) == 0) = false := by simp; omega
                by_cases hq : bdN l n (k + 1) * (leTo l n k).2 < (leTo l n k).1 * cnt (k + 1)
                · have Hst := Lib.hid (leStep_yes (a := n) (p := leTo l n k) hbig (Or.inr hq))
                  have hqi : (bdN l n (k + 1) : Int) * ((leTo l n k).2 : Int) < ((leTo l n k).1 : Int) * (cnt (k + 1) : Int) := by rw [← Int.natCast_mul, ← Int.natCast_mul]; exact Int.ofNat_lt.2 hq
                  clear hq hz
                  go_wp2_with (first | (go_at_call 115; refine (l2Order_any _ _ _ (hg _ hE) (Hgr)).mono ?_; rintro e w' ⟨rfl, hE'⟩; replace hE := hE.trans hE'; clear hE') | (go_at_call 117; rw [Hcst.out]; refine (l3Bits_any _ hk24 _).mono ?_; rintro e w' ⟨rfl, rfl⟩) | (go_at_call 115; refine (l2Order_any _ _ _ (hg _ hE) (Hgr)).mono ?_; rintro e w' ⟨rfl, hE'⟩; replace hE := hE.trans hE'; clear hE') | (go_at_call 86; rw [Hcst.out]; refine (sBoundaryOf_nat _ _ _ _ _ (hg _ hE) hc hks).mono ?_; rintro e w' ⟨rfl, hE'⟩; replace hE := hE.trans hE'; clear hE'))
                  go_roundw
                  case rel => exact ⟨k + 1, by omega, by go_num, by rw [Hsu.out, Hst.out], by rw [Hsu.out, Hst.out], hE⟩
                  case measure => (simp [intOf]; omega)
                · have Hst := Lib.hid (leStep_no (a := n) (p := leTo l n k) hbig (fun e => e.elim hz hq))
                  have hqi : ¬ (bdN l n (k + 1) : Int) * ((leTo l n k).2 : Int) < ((leTo l n k).1 : Int) * (cnt (k + 1) : Int) := by rw [← Int.natCast_mul, ← Int.natCast_mul]; exact fun e => hq (Int.ofNat_lt.1 e)
                  clear hq hz
                  go_wp2_with (first | (go_at_call 115; refine (l2Order_any _ _ _ (hg _ hE) (Hgr)).mono ?_; rintro e w' ⟨rfl, hE'⟩; replace hE := hE.trans hE'; clear hE') | (go_at_call 117; rw [Hcst.out]; refine (l3Bits_any _ hk24 _).mono ?_; rintro e w' ⟨rfl, rfl⟩) | (go_at_call 115; refine (l2Order_any _ _ _ (hg _ hE) (Hgr)).mono ?_; rintro e w' ⟨rfl, hE'⟩; replace hE := hE.trans hE'; clear hE') | (go_at_call 86; rw [Hcst.out]; refine (sBoundaryOf_nat _ _ _ _ _ (hg _ hE) hc hks).mono ?_; rintro e w' ⟨rfl, hE'⟩; replace hE := hE.trans hE'; clear hE'))
                  go_roundw
                  case rel => exact ⟨k + 1, by omega, by go_num, by rw [Hsu.out, Hst.out], by rw [Hsu.out, Hst.out], hE⟩
                  case measure => (simp [intOf]; omega)
        · have hkl : k = fullN l := by omega
          subst hkl
          have hgt : ¬ (fullN l : Int) + 1 < (pw (ord l) : Int) := by have := hP.out; omega
          have h0 := HR0.out
          have hbd := HRb.out
          change Hid ((leR l n).2 ≠ 0) at HR0
          have hr1 : leTo l n (fullN l) = leR l n := rfl
          rw [hr1] at h0 hbd ⊢
          clear hr1
          have hG : Hid (Nat.gcd (leR l n).1 (leR l n).2 = leG l n) := Lib.hid rfl
          have hg0 : 0 < leG l n := Nat.gcd_pos_of_pos_right _ (by omega)
          have d1 : (((leR l n).1 / leG l n : Nat) : Int) = ((leR l n).1 : Int) / (leG l n : Int) := Int.natCast_ediv _ _
          have d2 : (((leR l n).2 / leG l n : Nat) : Int) = ((leR l n).2 : Int) / (leG l n : Int) := Int.natCast_ediv _ _
          have b1 := Nat.div_le_self (leR l n).1 (leG l n)
          have b2 := Nat.div_le_self (leR l n).2 (leG l n)
          have D1 := Lib.hid d1
          have D2 := Lib.hid d2
          have i1 : 0 ≤ ((leR l n).1 : Int) / (leG l n : Int) ∧ ((leR l n).1 : Int) / (leG l n : Int) ≤ 576 := ⟨by rw [← d1]; exact Int.natCast_nonneg _, by rw [← d1]; exact Int.ofNat_le.2 (Nat.le_trans b1 hbd.1)⟩
          have i2 : 0 ≤ ((leR l n).2 : Int) / (leG l n : Int) ∧ ((leR l n).2 : Int) / (leG l n : Int) ≤ 24 := ⟨by rw [← d2]; exact Int.natCast_nonneg _, by rw [← d2]; exact Int.ofNat_le.2 (Nat.le_trans b2 hbd.2)⟩
          have hne2 : ((leG l n : Int) == 0) = false := by simp; omega
          have hpos : 0 < (leG l n : Int) := by omega
          clear d1 d2 b1 b2
          by_cases hmx : (leR l n).1 < (leR l n).2
          · have Hgc : Hid (Nat.gcd (leR l n).2 (leR l n).1 = leG l n) := Lib.hid (by rw [Nat.gcd_comm]; exact hG.out)
            go_wp2_with (first | (go_at_call 115; refine (l2Order_any _ _ _ (hg _ hE) (Hgr)).mono ?_; rintro e w' ⟨rfl, hE'⟩; replace hE := hE.trans hE'; clear hE') | (go_at_call 180; refine (l11Divisor_any (leR l n).2 (leR l n).1 (by omega) (by omega) _).mono ?_; rw [Hgc.out]; rintro e w' ⟨rfl, hE'⟩; replace hE := hE.trans hE'; clear hE'))
            (refine wp_region_lat (wb) (by kernel_rfl) (by kernel_rfl) hE ?_); (repeat (go_big_quiet_step (first | fail))); (refine wpQuiet_nil ?_); (intro W hE'); (replace hE := lat_of hE'); (clear hE')
            go_wp2_with fail
            exact bodyPost_ret (v := .tuple #[.int .i64 (((leR l n).1 / leG l n : Nat) : Int), .int .i64 (((leR l n).2 / leG l n : Nat) : Int), .bool true]) (by simp [results, Try.results97, go_sem, D1.out, D2.out]; try rw [hme]) rfl ⟨by rw [Hr.out.1, Hr.out.2, Hs.out], hE0.trans hE⟩
          · by_cases hmq : (leR l n).2 < (leR l n).1
            · have Hgc : Hid (Nat.gcd (leR l n).1 (leR l n).2 = leG l n) := hG
              go_wp2_with (first | (go_at_call 115; refine (l2Order_any _ _ _ (hg _ hE) (Hgr)).mono ?_; rintro e w' ⟨rfl, hE'⟩; replace hE := hE.trans hE'; clear hE') | (go_at_call 180; refine (l11Divisor_any (leR l n).1 (leR l n).2 (by omega) (by omega) _).mono ?_; rw [Hgc.out]; rintro e w' ⟨rfl, hE'⟩; replace hE := hE.trans hE'; clear hE'))
              (refine wp_region_lat (wb) (by kernel_rfl) (by kernel_rfl) hE ?_); (repeat (go_big_quiet_step (first | fail))); (refine wpQuiet_nil ?_); (intro W hE'); (replace hE := lat_of hE'); (clear hE')
              go_wp2_with fail
              exact bodyPost_ret (v := .tuple #[.int .i64 (((leR l n).1 / leG l n : Nat) : Int), .int .i64 (((leR l n).2 / leG l n : Nat) : Int), .bool true]) (by simp [results, Try.results97, go_sem, D1.out, D2.out]; try rw [hme]) rfl ⟨by rw [Hr.out.1, Hr.out.2, Hs.out], hE0.trans hE⟩
            · have hme : (leR l n).2 = (leR l n).1 := by omega
              have Hgc : Hid (Nat.gcd (leR l n).1 (leR l n).1 = leG l n) := Lib.hid (by have := hG.out; rw [hme] at this; exact this)
              go_wp2_with (first | (go_at_call 115; refine (l2Order_any _ _ _ (hg _ hE) (Hgr)).mono ?_; rintro e w' ⟨rfl, hE'⟩; replace hE := hE.trans hE'; clear hE') | (go_at_call 180; refine (l11Divisor_any (leR l n).1 (leR l n).1 (by omega) (by omega) _).mono ?_; rw [Hgc.out]; rintro e w' ⟨rfl, hE'⟩; replace hE := hE.trans hE'; clear hE'))
              (refine wp_region_lat (wb) (by kernel_rfl) (by kernel_rfl) hE ?_); (repeat (go_big_quiet_step (first | fail))); (refine wpQuiet_nil ?_); (intro W hE'); (replace hE := lat_of hE'); (clear hE')
              go_wp2_with fail
              exact bodyPost_ret (v := .tuple #[.int .i64 (((leR l n).1 / leG l n : Nat) : Int), .int .i64 (((leR l n).2 / leG l n : Nat) : Int), .bool true]) (by simp [results, Try.results97, go_sem, D1.out, D2.out]; try rw [hme]) rfl ⟨by rw [Hr.out.1, Hr.out.2, Hs.out], hE0.trans hE⟩
end Go.Zz
