/- The greedy translates. -/
import Derived.Test.YtgjomoedgmofbaaC16
import Derived.Test.YtgjomoedgmofbaaPg
namespace Go.Zz
open Go.RowKit Go.Proofs
set_option maxHeartbeats 400000

theorem fullF_n {l : List Int} (h : isGrp l = true) : fullF l = (fullN l : Int) := by
  rw [fullF_t h]; unfold fullN; have := pw_pos (ord l); omega
--%call FullSetN 155 ext FullSet_grp _ _ _ ({0}) ({1})
theorem FullSet_grp (v : Value) (l : List Int) (w : World) (h : Ints w v l) (Hgr : Hid (isGrp l = true)) :
    Calls Try.prog 155 #[.agg #[v]] w fun e w' => e = .returned (.int .i64 (fullN l)) ∧ Ext w w' := by
  rw [← fullF_n Hgr.out]; exact FullSet_any v l w h
--%call OrderOfN 108 ext OrderOf_grp _ _ _ ({0}) ({1})
theorem OrderOf_grp (v : Value) (l : List Int) (w : World) (h : Ints w v l) (Hgr : Hid (isGrp l = true)) :
    Calls Try.prog 108 #[.agg #[v]] w fun e w' => e = .returned (.int .i64 (ord l : Int)) ∧ Ext w w' := by
  rw [← ordF_t Hgr.out]; exact OrderOf_any v l w h

theorem GreedyTranslates_any (v : Value) (l : List Int) (a : Int) (w : World) (h : Ints w v l) :
    Calls Try.prog 62 #[.agg #[v], .int .i64 a] w fun e w' => e = .returned (.tuple #[.int .i64 (greedyF l a), .bool (isOneB l a)]) ∧ Ext w w' := by
  obtain ⟨wb, hwb⟩ : ∃ wb, wb = w.alloc (.cells #[v] 26) := ⟨_, rfl⟩
  have hE0 := (Ext.refl w).alloc (.cells #[v] 26)
  have hb := box_cell w v 26
  rw [← hwb] at hE0 hb
  have hg : ∀ W, Ext wb W → Ints W v l := fun W hW => h.ext (hE0.trans hW)
  have hE := Ext.refl wb
  have Hsz : Hid (w.heap.size + 1 = wb.heap.size) := Lib.hid (by rw [hwb]; simp [go_sem])
  have Hwb := Lib.hid hwb
  clear hwb h
  have hbx := hb wb hE
  cases hs : isSetB l a
  · have Hs := Lib.hid (isOneB_no hs)
    have Hs2 := Lib.hid (greedyF_no (isOneB_no hs))
    go_enter Try.func62, Try.ntmps62
    go_wp2_with fail
    rw [← Hwb.out]
    go_wp2_with (first | (go_at_call 144; refine (IsSet_any _ _ _ _ (hg _ hE)).mono ?_; rintro e w' ⟨rfl, hE'⟩; replace hE := hE.trans hE'; clear hE'))
    refine bodyPost_ret (v := .tuple #[.int .i64 0, .bool false]) (by simp [results, Try.results62, go_sem]) rfl ⟨by rw [Hs.out, Hs2.out], hE0.trans hE⟩
  · obtain ⟨n, rfl, h1, h2, hgr⟩ := isSetB_nat hs
    by_cases h0 : n = 0
    · subst h0
      have Hs := Lib.hid (isOneB_zero l)
      have Hs2 := Lib.hid (greedyF_no (isOneB_zero l))
      go_enter Try.func62, Try.ntmps62
      go_wp2_with fail
      rw [← Hwb.out]
      go_wp2_with (first | (go_at_call 144; refine (IsSet_any _ _ _ _ (hg _ hE)).mono ?_; rintro e w' ⟨rfl, hE'⟩; replace hE := hE.trans hE'; clear hE'))
      refine bodyPost_ret (v := .tuple #[.int .i64 0, .bool false]) (by simp [results, Try.results62, go_sem]) rfl ⟨by have := Hs.out; have := Hs2.out; simp_all, hE0.trans hE⟩
    · have Hs := Lib.hid (isOneB_yes hs (by omega))
      have Hs2 := Lib.hid (greedyF_yes Hs.out)
      have hne := Lib.hid h0
      have hn1 := Lib.hid h1
      have h0' : ((n : Int) == 0) = false := by simp; omega
      have Hgr := Lib.hid hgr
      have hob := ord_bd hgr
      have hfl := fullN_lt l
      have hpo := pow_ord hgr
      clear hgr h0 h1
      go_enter Try.func62, Try.ntmps62
      go_wp2_with fail
      rw [← Hwb.out]
      go_wp2_with (first | (go_at_call 144; refine (IsSet_any _ _ _ _ (hg _ hE)).mono ?_; rintro e w' ⟨rfl, hE'⟩; replace hE := hE.trans hE'; clear hE'))
      clear hs h0'
      go_loopw [6, 7] (fun ov cv wr => ∃ out c N : Nat, out < 2 ^ 24 ∧ c < 2 ^ ord l ∧ andN (fullN l) c ≤ N ∧ greedyN l n N out (andN (fullN l) c) = greedyN l n (fullN l) 0 (fullN l) ∧ ov = .int .i64 out ∧ cv = .int .i64 c ∧ Ext wb wr) (fun _ c _ => andN (fullN l) (intOf c).toNat)
      case atStart => exact ⟨0, 0, fullN l, by omega, by omega, by rw [left_start]; omega, by rw [left_start], rfl, rfl, hE⟩
      case round =>
        clear hE
        obtain ⟨out, c, N, ho, hc, hN, hG, rfl, rfl, hE⟩ := hrel
        have hbx := hb _ hE
        have HG := Lib.hid hG
        clear hG
        by_cases hend : c = fullN l
        · have hz := Lib.hid ((left_zero hc).2 hend)
          have hq : ((c : Int) != (fullN l : Int)) = false := by simp [hend]
          clear hend
          go_wp2_with (first | (go_at_call 155; refine (FullSet_grp _ _ _ (hg _ hE) (Hgr)).mono ?_; rintro e w' ⟨rfl, hE'⟩; replace hE := hE.trans hE'; clear hE'))
          have hres : Hid (greedyN l n (fullN l) 0 (fullN l) = out) := Lib.hid (by have := HG.out; rw [hz.out, greedyN_end] at this; exact this.symm)
          refine bodyPost_ret (v := .tuple #[.int .i64 out, .bool true]) (by simp [results, Try.results62, go_sem]) rfl ⟨by rw [Hs.out, Hs2.out, hres.out], hE0.trans hE⟩
        · have hq : ((c : Int) != (fullN l : Int)) = true := by simp; omega
          have Hnz : Hid (andN (fullN l) c ≠ 0) := Lib.hid fun e => hend ((left_zero hc).1 e)
          have hal := andN_lt (b := c) hfl
          clear hend
          go_wp2_with (first | (go_at_call 155; refine (FullSet_grp _ _ _ (hg _ hE) (Hgr)).mono ?_; rintro e w' ⟨rfl, hE'⟩; replace hE := hE.trans hE'; clear hE') | (go_at_call 108; refine (OrderOf_grp _ _ _ (hg _ hE) (Hgr)).mono ?_; rintro e w' ⟨rfl, hE'⟩; replace hE := hE.trans hE'; clear hE'))
          clear hq
          go_loopw [8, 9, 26] (fun bv mv xv wr => ∃ k : Nat, k ≤ ord l ∧ xv = .int .i64 k ∧ bv = .int .i64 ((bmI (gain l n (andN (fullN l) c)) k).1 : Int) ∧ mv = .int .i64 (bmI (gain l n (andN (fullN l) c)) k).2 ∧ Ext wb wr) (fun _ _ x _ => ord l - (intOf x).toNat)
          case atStart => exact ⟨0, by omega, rfl, rfl, rfl, hE⟩
          case round =>
            clear hE hbx
            obtain ⟨k, hk, rfl, rfl, rfl, hE⟩ := hrel
            have hbx := hb _ hE
            by_cases hlt : k < ord l
            · have hsb := shiftF_bd Hgr.out n k
              have hand : iandn (shiftF l n k : Int) (c : Int) = ((andN (shiftF l n k) c : Nat) : Int) := iandn_nat (by omega) (by omega)
              have hcb : andN (shiftF l n k) c < 2 ^ 24 := andN_lt hsb
              have Hcg : Hid (cnt (andN (shiftF l n k) c) = gain l n (andN (fullN l) c) k) := Lib.hid (by rw [left_gain Hgr.out]; rfl)
              have hbb := bmI_bd (gain_le l n (andN (fullN l) c)) k
              have hg24 := gain_le l n (andN (fullN l) c) k
              have hsh : Hid (k < 24) := Lib.hid (by omega)
              by_cases hgt : (bmI (gain l n (andN (fullN l) c)) k).2 < (gain l n (andN (fullN l) c) k : Int)
              · have Hb := Lib.hid (bmI_yes hgt)
                go_wp2_with (first | (go_at_call 157; refine (shift_any _ _ _ _ _ (hg _ hE) (Hgr) (h2) (hsh.out)).mono ?_; rintro e w' ⟨rfl, hE'⟩; replace hE := hE.trans hE'; clear hE') | (go_at_call 112; refine (bits_any _ hcb _).mono ?_; rintro e w' ⟨rfl, rfl⟩; rw [Hcg.out]))
                go_roundw
                case rel => exact ⟨k + 1, by omega, by go_num, by rw [Hb.out], by rw [Hb.out], hE⟩
                case measure => (simp [intOf]; omega)
              · have Hb := Lib.hid (bmI_no hgt)
                go_wp2_with (first | (go_at_call 157; refine (shift_any _ _ _ _ _ (hg _ hE) (Hgr) (h2) (hsh.out)).mono ?_; rintro e w' ⟨rfl, hE'⟩; replace hE := hE.trans hE'; clear hE') | (go_at_call 112; refine (bits_any _ hcb _).mono ?_; rintro e w' ⟨rfl, rfl⟩; rw [Hcg.out]))
                go_roundw
                case rel => exact ⟨k + 1, by omega, by go_num, by rw [Hb.out], by rw [Hb.out], hE⟩
                case measure => (simp [intOf]; omega)
            · have hkl : k = ord l := by omega
              subst hkl
              rw [bestAt_I Hgr.out]
              have hbl := bestAt_lt Hgr.out n (andN (fullN l) c)
              have hs1 := ishl_one (n := bestAt l n (andN (fullN l) c)) (by omega)
              have hs2 := ior_pw ho (show bestAt l n (andN (fullN l) c) < 24 by omega)
              have hsb := shiftF_lt (isGrp_ords Hgr.out) n (bestAt l n (andN (fullN l) c))
              have hs3 := ior_nat (a := c) (b := shiftF l n (bestAt l n (andN (fullN l) c))) (by omega) (by omega)
              have hless := greedy_less Hgr.out hne.out hn1.out Hnz.out hal
              have Hst := Lib.hid (greedyN_step (l := l) (a := n) (n := N - 1) (out := out) Hnz.out)
              have hNp : Hid (N - 1 + 1 = N) := Lib.hid (by have := Hnz.out; omega)
              have hln := Lib.hid (left_next l (shiftF l n (bestAt l n (andN (fullN l) c))) c)
              have hsh : Hid (bestAt l n (andN (fullN l) c) < 24) := Lib.hid (by omega)
              go_wp2_with (first | (go_at_call 157; refine (shift_any _ _ _ _ _ (hg _ hE) (Hgr) (h2) (hsh.out)).mono ?_; rintro e w' ⟨rfl, hE'⟩; replace hE := hE.trans hE'; clear hE'))
              go_roundw
              case rel =>
                refine ⟨out ||| 2 ^ bestAt l n (andN (fullN l) c), c ||| shiftF l n (bestAt l n (andN (fullN l) c)), N - 1, Nat.or_lt_two_pow ho (Nat.pow_lt_pow_right (by omega) hsh.out), Nat.or_lt_two_pow hc hsb, ?_, ?_, rfl, rfl, hE⟩
                · rw [hln.out]; omega
                · rw [hln.out, ← Hst.out, hNp.out]; exact HG.out
              case measure => (simp only [intOf, Int.toNat_natCast]; rw [hln.out]; exact hless)

theorem andN_int {l : List Int} {a b : Nat} (h : a < 2 ^ ord l) : (a : Int) - ((a &&& b : Nat) : Int) = ((andN a b : Nat) : Int) := by
  have := andN_sub (ord l) a b h; omega
theorem sGreedyTranslates_any (v : Value) (l : List Int) (a : Int) (w : World) (h : Ints w v l) :
    Calls Try.prog 67 #[.agg #[v], .int .i64 a] w fun e w' => e = .returned (.tuple #[.int .i64 (greedyF l a), .bool (isOneB l a)]) ∧ Ext w w' := by
  obtain ⟨wb, hwb⟩ : ∃ wb, wb = w.alloc (.cells #[v] 26) := ⟨_, rfl⟩
  have hE0 := (Ext.refl w).alloc (.cells #[v] 26)
  have hb := box_cell w v 26
  rw [← hwb] at hE0 hb
  have hg : ∀ W, Ext wb W → Ints W v l := fun W hW => h.ext (hE0.trans hW)
  have hE := Ext.refl wb
  have Hsz : Hid (w.heap.size + 1 = wb.heap.size) := Lib.hid (by rw [hwb]; simp [go_sem])
  have Hwb := Lib.hid hwb
  clear hwb h
  have hbx := hb wb hE
  cases hs : isSetB l a
  · have Hs := Lib.hid (isOneB_no hs)
    have Hs2 := Lib.hid (greedyF_no (isOneB_no hs))
    go_enter Try.func67, Try.ntmps67
    go_wp2_with fail
    rw [← Hwb.out]
    go_wp2_with (first | (go_at_call 119; refine (sIsSet_any _ _ _ _ (hg _ hE)).mono ?_; rintro e w' ⟨rfl, hE'⟩; replace hE := hE.trans hE'; clear hE'))
    refine bodyPost_ret (v := .tuple #[.int .i64 0, .bool false]) (by simp [results, Try.results67, go_sem]) rfl ⟨by rw [Hs.out, Hs2.out], hE0.trans hE⟩
  · obtain ⟨n, rfl, h1, h2, hgr⟩ := isSetB_nat hs
    by_cases h0 : n = 0
    · subst h0
      have Hs := Lib.hid (isOneB_zero l)
      have Hs2 := Lib.hid (greedyF_no (isOneB_zero l))
      go_enter Try.func67, Try.ntmps67
      go_wp2_with fail
      rw [← Hwb.out]
      go_wp2_with (first | (go_at_call 119; refine (sIsSet_any _ _ _ _ (hg _ hE)).mono ?_; rintro e w' ⟨rfl, hE'⟩; replace hE := hE.trans hE'; clear hE'))
      refine bodyPost_ret (v := .tuple #[.int .i64 0, .bool false]) (by simp [results, Try.results67, go_sem]) rfl ⟨by have := Hs.out; have := Hs2.out; simp_all, hE0.trans hE⟩
    · have Hs := Lib.hid (isOneB_yes hs (by omega))
      have Hs2 := Lib.hid (greedyF_yes Hs.out)
      have hne := Lib.hid h0
      have hn1 := Lib.hid h1
      have h0' : ((n : Int) == 0) = false := by simp; omega
      have Hgr := Lib.hid hgr
      have hob := ord_bd hgr
      have hfl := fullN_lt l
      have hpo := pow_ord hgr
      have hp1 := pw_pos (ord l)
      have hp2 := pw_le hob.2
      have hs0 := ishl_one (n := ord l) (by omega)
      have Hful : Hid (((pw (ord l) : Nat) : Int) - 1 = (fullN l : Int)) := Lib.hid (by unfold fullN; omega)
      clear hgr h0 h1
      go_enter Try.func67, Try.ntmps67
      go_wp2_with fail
      rw [← Hwb.out]
      go_wp2_with (first | (go_at_call 119; refine (sIsSet_any _ _ _ _ (hg _ hE)).mono ?_; rintro e w' ⟨rfl, hE'⟩; replace hE := hE.trans hE'; clear hE') | (go_at_call 115; refine (l2Order_any _ _ _ (hg _ hE) (Hgr)).mono ?_; rintro e w' ⟨rfl, hE'⟩; replace hE := hE.trans hE'; clear hE'))
      rw [Hful.out]
      clear hs h0' hs0 hp1 hp2
      go_loopw [6, 7] (fun ov cv wr => ∃ out c N : Nat, out < 2 ^ 24 ∧ c < 2 ^ ord l ∧ c ≤ N ∧ greedyN l n N out c = greedyN l n (fullN l) 0 (fullN l) ∧ ov = .int .i64 out ∧ cv = .int .i64 c ∧ Ext wb wr) (fun _ c _ => (intOf c).toNat)
      case atStart => exact ⟨0, fullN l, fullN l, by omega, hfl, by omega, rfl, rfl, rfl, hE⟩
      case round =>
        clear hE
        obtain ⟨out, c, N, ho, hc, hN, hG, rfl, rfl, hE⟩ := hrel
        have hbx := hb _ hE
        have HG := Lib.hid hG
        clear hG
        by_cases hend : c = 0
        · subst hend
          go_wp2_with fail
          have hres : Hid (greedyN l n (fullN l) 0 (fullN l) = out) := Lib.hid (by have := HG.out; rw [greedyN_end] at this; exact this.symm)
          refine bodyPost_ret (v := .tuple #[.int .i64 out, .bool true]) (by simp [results, Try.results67, go_sem]) rfl ⟨by rw [Hs.out, Hs2.out, hres.out], hE0.trans hE⟩
        · have Hnz : Hid (c ≠ 0) := Lib.hid hend
          have hcp : 0 < (c : Int) := by omega
          have hcn : 0 < c := by omega
          clear hend
          go_wp2_with fail
          go_loopw [8, 9, 10] (fun bv mv xv wr => ∃ k : Nat, k ≤ ord l ∧ xv = .int .i64 k ∧ bv = .int .i64 ((bm (gain l n c) k).1 : Int) ∧ mv = .int .i64 ((bm (gain l n c) k).2 : Int) ∧ Ext wb wr) (fun _ _ x _ => ord l - (intOf x).toNat)
          case atStart => exact ⟨0, by omega, rfl, rfl, rfl, hE⟩
          case round =>
            clear hE hbx
            obtain ⟨k, hk, rfl, rfl, rfl, hE⟩ := hrel
            have hbx := hb _ hE
            by_cases hlt : k < ord l
            · have hsb := shiftF_bd Hgr.out n k
              have hand : iand (shiftF l n k : Int) (c : Int) = ((shiftF l n k &&& c : Nat) : Int) := iand_nat (by omega) (by omega)
              have hcb : shiftF l n k &&& c < 2 ^ 24 := Nat.lt_of_le_of_lt Nat.and_le_left hsb
              have Hcg : Hid (cnt (shiftF l n k &&& c) = gain l n c k) := Lib.hid rfl
              have hbb := bm_le (gain_le l n c) k
              have hg24 := gain_le l n c k
              have hsh : Hid (k < 24) := Lib.hid (by omega)
              by_cases hgt : (bm (gain l n c) k).2 < gain l n c k
              · have Hb := Lib.hid (bm_yes hgt)
                go_wp2_with (first | (go_at_call 115; refine (l2Order_any _ _ _ (hg _ hE) (Hgr)).mono ?_; rintro e w' ⟨rfl, hE'⟩; replace hE := hE.trans hE'; clear hE') | (go_at_call 160; refine (l3Shift_any _ _ _ _ _ (hg _ hE) (Hgr) (h2) (hsh.out)).mono ?_; rintro e w' ⟨rfl, hE'⟩; replace hE := hE.trans hE'; clear hE') | (go_at_call 117; refine (l3Bits_any _ hcb _).mono ?_; rintro e w' ⟨rfl, rfl⟩; rw [Hcg.out]))
                go_roundw
                case rel => exact ⟨k + 1, by omega, by go_num, by rw [Hb.out], by rw [Hb.out], hE⟩
                case measure => (simp [intOf]; omega)
              · have Hb := Lib.hid (bm_no hgt)
                go_wp2_with (first | (go_at_call 115; refine (l2Order_any _ _ _ (hg _ hE) (Hgr)).mono ?_; rintro e w' ⟨rfl, hE'⟩; replace hE := hE.trans hE'; clear hE') | (go_at_call 160; refine (l3Shift_any _ _ _ _ _ (hg _ hE) (Hgr) (h2) (hsh.out)).mono ?_; rintro e w' ⟨rfl, hE'⟩; replace hE := hE.trans hE'; clear hE') | (go_at_call 117; refine (l3Bits_any _ hcb _).mono ?_; rintro e w' ⟨rfl, rfl⟩; rw [Hcg.out]))
                go_roundw
                case rel => exact ⟨k + 1, by omega, by go_num, by rw [Hb.out], by rw [Hb.out], hE⟩
                case measure => (simp [intOf]; omega)
            · have hkl : k = ord l := by omega
              subst hkl
              rw [show (bm (gain l n c) (ord l)).1 = bestAt l n c from rfl]
              have hbl := bestAt_lt Hgr.out n c
              have hs1 := ishl_one (n := bestAt l n c) (by omega)
              have hs2 := ior_pw ho (show bestAt l n c < 24 by omega)
              have hsb := shiftF_lt (isGrp_ords Hgr.out) n (bestAt l n c)
              have hs3 := iand_nat (a := c) (b := shiftF l n (bestAt l n c)) (by omega) (by omega)
              have hless := greedy_less Hgr.out hne.out hn1.out Hnz.out hc
              have Hst := Lib.hid (greedyN_step (l := l) (a := n) (n := N - 1) (out := out) Hnz.out)
              have hNp : Hid (N - 1 + 1 = N) := Lib.hid (by have := Hnz.out; omega)
              have hsh : Hid (bestAt l n c < 24) := Lib.hid (by omega)
              have hle : c &&& shiftF l n (bestAt l n c) ≤ c := Nat.and_le_left
              have Hsub := Lib.hid (andN_int (b := shiftF l n (bestAt l n c)) hc)
              have Hal := Lib.hid (andN_lt (b := shiftF l n (bestAt l n c)) hc)
              go_wp2_with (first | (go_at_call 115; refine (l2Order_any _ _ _ (hg _ hE) (Hgr)).mono ?_; rintro e w' ⟨rfl, hE'⟩; replace hE := hE.trans hE'; clear hE') | (go_at_call 160; refine (l3Shift_any _ _ _ _ _ (hg _ hE) (Hgr) (h2) (hsh.out)).mono ?_; rintro e w' ⟨rfl, hE'⟩; replace hE := hE.trans hE'; clear hE'))
              go_roundw
              case rel =>
                refine ⟨out ||| 2 ^ bestAt l n c, andN c (shiftF l n (bestAt l n c)), N - 1, Nat.or_lt_two_pow ho (Nat.pow_lt_pow_right (by omega) hsh.out), Hal.out, ?_, ?_, rfl, by rw [Hsub.out], hE⟩
                · omega
                · rw [← Hst.out, hNp.out]; exact HG.out
              case measure => (simp only [intOf]; rw [Hsub.out, Int.toNat_natCast, Int.toNat_natCast]; exact hless)
end Go.Zz
