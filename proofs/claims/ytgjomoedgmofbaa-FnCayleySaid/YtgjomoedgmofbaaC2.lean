/- What the functions on groups and counts return: second part. -/
import Derived.Test.YtgjomoedgmofbaaC1
namespace Go.Zz
open Go.RowKit Go.Proofs
set_option maxHeartbeats 400000

--%call OrderOf 108 ext OrderOf_any _ _ _ ({0})
theorem OrderOf_any (v : Value) (l : List Int) (w : World) (h : Ints w v l) :
    Calls Try.prog 108 #[.agg #[v]] w fun e w' => e = .returned (.int .i64 (ordF l)) ∧ Ext w w' := by
  have hI := h
  obtain ⟨ao, c, adr, rfl, hlen, hadr, hcell⟩ := h.op
  have hix := ints_index (c := c) elI szI hadr
  clear hadr
  have hE0 := (Ext.refl w).alloc (.cells #[(.slice ao l.length c)] 26)
  have hE := Ext.refl (w.alloc (.cells #[(.slice ao l.length c)] 26))
  have hb := box_cell w (.slice ao l.length c) 26
  have hg : ∀ W, Ext (w.alloc (.cells #[(.slice ao l.length c)] 26)) W → Ints W (.slice ao l.length c) l := fun W hW => h.ext (hE0.trans hW)
  clear h
  cases hgr : isGrp l
  · have Hgr := Lib.hid hgr
    go_enter Try.func108, Try.ntmps108
    go_wp2_with (first | (go_at_call 109; refine (IsGroup_any _ _ _ (hg _ hE)).mono ?_; rintro e w' ⟨rfl, hE'⟩; replace hE := hE.trans hE'; clear hE'))
    go_ret
    exact ⟨ret_int (ordF_f Hgr.out).symm, hE0.trans hE⟩
  · have Hgr := Lib.hid hgr
    go_enter Try.func108, Try.ntmps108
    go_wp2_with (first | (go_at_call 109; refine (IsGroup_any _ _ _ (hg _ hE)).mono ?_; rintro e w' ⟨rfl, hE'⟩; replace hE := hE.trans hE'; clear hE'))
    clear hgr
    have h3 := isGrp_len Hgr.out
    have hck : ∀ i, i < l.length → World.cell? _ (adr i) = _ := fun i hi => hcell i _ hi (hE0.trans hE)
    go_loop [3, 12] (fun n i => ∃ k : Nat, k ≤ l.length ∧ n = .int .i64 (prodL (l.take k)) ∧ i = .int .i64 k) (fun _ i => l.length - (intOf i).toNat)
    case atStart => exact ⟨0, by omega, rfl, rfl⟩
    case round =>
      obtain ⟨k, hk, rfl, rfl⟩ := hrel
      obtain ⟨hb0, hb1⟩ := prodL_bd3 k l hk (by omega) (fun j hj => isGrp_nth Hgr.out (by omega))
      by_cases hlt : k < l.length
      · have hin := isGrp_nth Hgr.out hlt
        obtain ⟨hm1, hm2⟩ := mul_fits hb0 hb1 hin.1 hin.2
        go_wp2_with fail
        go_round
        case rel => exact ⟨k + 1, by omega, by rw [prodL_take l k hlt], by go_num⟩
        case measure => (simp [intOf]; omega)
      · have hkl : k = l.length := by omega
        subst hkl
        rw [List.take_length] at *
        go_wp2_with fail
        go_ret
        exact ⟨ret_int (by unfold ordF; rw [if_pos Hgr.out]), hE0.trans hE⟩

--%call l2Order 115 ext l2Order_any _ _ _ ({0}) ({1})
theorem l2Order_any (v : Value) (l : List Int) (w : World) (h : Ints w v l) (Hgr : Hid (isGrp l = true)) :
    Calls Try.prog 115 #[.agg #[v]] w fun e w' => e = .returned (.int .i64 (ord l : Int)) ∧ Ext w w' := by
  obtain ⟨ao, c, adr, rfl, hlen, hadr, hcell⟩ := h.op
  have hix := ints_index (c := c) elI szI hadr
  clear hadr h
  have hE0 := (Ext.refl w).alloc (.cells #[.slice ao l.length c] 26)
  have h3 := isGrp_len Hgr.out
  go_enter Try.func115, Try.ntmps115
  go_wp2_with fail
  go_loop [3, 4] (fun n i => ∃ k : Nat, k ≤ l.length ∧ n = .int .i64 (prodL (l.take k)) ∧ i = .int .i64 k) (fun _ i => l.length - (intOf i).toNat)
  case atStart => exact ⟨0, by omega, rfl, rfl⟩
  case round =>
    obtain ⟨k, hk, rfl, rfl⟩ := hrel
    obtain ⟨hb0, hb1⟩ := prodL_bd3 k l hk (by omega) (fun j hj => isGrp_nth Hgr.out (by omega))
    by_cases hlt : k < l.length
    · have hck := hcell k _ hlt hE0
      have hin := isGrp_nth Hgr.out hlt
      obtain ⟨hm1, hm2⟩ := mul_fits hb0 hb1 hin.1 hin.2
      go_wp2_with fail
      go_round
      case rel => exact ⟨k + 1, by omega, by rw [prodL_take l k hlt], by go_num⟩
      case measure => (simp [intOf]; omega)
    · have hkl : k = l.length := by omega
      subst hkl
      rw [List.take_length] at *
      go_wp2_with fail
      go_ret
      exact ⟨ret_int (ord_cast Hgr.out).symm, hE0⟩

--%call IsSet 144 ext IsSet_any _ _ _ _ ({0})
theorem IsSet_any (v : Value) (l : List Int) (a : Int) (w : World) (h : Ints w v l) :
    Calls Try.prog 144 #[.agg #[v], .int .i64 a] w fun e w' => e = .returned (.bool (isSetB l a)) ∧ Ext w w' := by
  have hE0 := (Ext.refl w).alloc (.cells #[v] 26)
  have hE := Ext.refl (w.alloc (.cells #[v] 26))
  have hb := box_cell w v 26
  have hg : ∀ W, Ext (w.alloc (.cells #[v] 26)) W → Ints W v l := fun W hW => h.ext (hE0.trans hW)
  clear h
  cases hgr : isGrp l
  · have Hgr := Lib.hid hgr
    go_enter Try.func144, Try.ntmps144
    go_wp2_with (first | (go_at_call 109; refine (IsGroup_any _ _ _ (hg _ hE)).mono ?_; rintro e w' ⟨rfl, hE'⟩; replace hE := hE.trans hE'; clear hE'))
    go_ret
    exact ⟨ret_bool (by unfold isSetB; rw [Hgr.out]; rfl), hE0.trans hE⟩
  · have Hgr := Lib.hid hgr
    have hord := ordF_t hgr
    have hsh := ishl_one (n := ord l) (by have := ord_bd hgr; omega)
    by_cases h0 : 0 ≤ a
    · go_enter Try.func144, Try.ntmps144
      go_wp2_with (first | (go_at_call 109; refine (IsGroup_any _ _ _ (hg _ hE)).mono ?_; rintro e w' ⟨rfl, hE'⟩; replace hE := hE.trans hE'; clear hE') | (go_at_call 108; refine (OrderOf_any _ _ _ (hg _ hE)).mono ?_; rintro e w' ⟨rfl, hE'⟩; replace hE := hE.trans hE'; clear hE'))
      go_ret
      exact ⟨ret_bool (by have := pw_int (ord l); unfold isSetB; rw [Hgr.out, Bool.eq_iff_iff]; simp; omega), hE0.trans hE⟩
    · go_enter Try.func144, Try.ntmps144
      go_wp2_with (first | (go_at_call 109; refine (IsGroup_any _ _ _ (hg _ hE)).mono ?_; rintro e w' ⟨rfl, hE'⟩; replace hE := hE.trans hE'; clear hE') | (go_at_call 108; refine (OrderOf_any _ _ _ (hg _ hE)).mono ?_; rintro e w' ⟨rfl, hE'⟩; replace hE := hE.trans hE'; clear hE'))
      go_ret
      exact ⟨ret_bool (by unfold isSetB; rw [Hgr.out]; simp; omega), hE0.trans hE⟩

--%call sIsSet 119 ext sIsSet_any _ _ _ _ ({0})
theorem sIsSet_any (v : Value) (l : List Int) (a : Int) (w : World) (h : Ints w v l) :
    Calls Try.prog 119 #[.agg #[v], .int .i64 a] w fun e w' => e = .returned (.bool (isSetB l a)) ∧ Ext w w' := by
  have hE0 := (Ext.refl w).alloc (.cells #[v] 26)
  have hE := Ext.refl (w.alloc (.cells #[v] 26))
  have hb := box_cell w v 26
  have hg : ∀ W, Ext (w.alloc (.cells #[v] 26)) W → Ints W v l := fun W hW => h.ext (hE0.trans hW)
  clear h
  cases hgr : isGrp l
  · have Hgr := Lib.hid hgr
    go_enter Try.func119, Try.ntmps119
    go_wp2_with (first | (go_at_call 114; refine (sIsGroup_any _ _ _ (hg _ hE)).mono ?_; rintro e w' ⟨rfl, hE'⟩; replace hE := hE.trans hE'; clear hE'))
    go_ret
    exact ⟨ret_bool (by unfold isSetB; rw [Hgr.out]; rfl), hE0.trans hE⟩
  · have Hgr := Lib.hid hgr
    have hsh := ishl_one (n := ord l) (by have := ord_bd hgr; omega)
    have hp1 := pw_pos (ord l)
    have hp2 := pw_le (ord_bd hgr).2
    go_enter Try.func119, Try.ntmps119
    go_wp2_with (first | (go_at_call 114; refine (sIsGroup_any _ _ _ (hg _ hE)).mono ?_; rintro e w' ⟨rfl, hE'⟩; replace hE := hE.trans hE'; clear hE') | (go_at_call 115; refine (l2Order_any _ _ _ (hg _ hE) (Hgr)).mono ?_; rintro e w' ⟨rfl, hE'⟩; replace hE := hE.trans hE'; clear hE') | (go_at_call 116; refine (l1In_any _ _ _ _).mono ?_; rintro e w' ⟨rfl, rfl⟩))
    go_ret
    exact ⟨ret_bool (by have := pw_int (ord l); unfold isSetB inB; rw [Hgr.out, Bool.eq_iff_iff]; simp; omega), hE0.trans hE⟩

--%call bits 112 same bits_any _ ({0}) _
theorem bits_any (a : Nat) (ha : a < 2 ^ 24) (w : World) :
    Calls Try.prog 112 #[.int .i64 a] w fun e w' => e = .returned (.int .i64 (cnt a : Int)) ∧ w = w' := by
  have hc := cnt_le a
  go_enter Try.func112, Try.ntmps112
  go_wp2_with fail
  go_loop [0, 3] (fun x n => ∃ b m : Nat, b < 2 ^ 24 ∧ m + cnt b = cnt a ∧ x = .int .i64 b ∧ n = .int .i64 m) (fun x _ => (intOf x).toNat)
  case atStart => exact ⟨a, 0, ha, by omega, rfl, rfl⟩
  case round =>
    obtain ⟨b, m, hb, hm, rfl, rfl⟩ := hrel
    have Hm := Lib.hid hm
    have hm' : m ≤ 24 := by omega
    clear hm
    by_cases h0 : b = 0
    · subst h0
      go_wp2_with fail
      go_ret
      exact ⟨ret_int (by have := Hm.out; rw [cnt_zero] at this; omega), rfl⟩
    · have hne : ((b : Int) != 0) = true := by simp; omega
      have hb2 : b < 16777216 := hb
      have e1 : (b : Int) - 1 = ((b - 1 : Nat) : Int) := by omega
      have hand : iand (b : Int) ((b : Int) - 1) = ((b &&& (b - 1) : Nat) : Int) := by rw [e1]; exact iand_nat (by omega) (by omega)
      clear e1
      go_wp2_with fail
      go_round
      case rel => exact ⟨b &&& (b - 1), m + 1, Nat.and_lt_two_pow _ (by omega), by have := cnt_drop (by omega : 0 < b) hb; have := Hm.out; omega, rfl, by go_num⟩
      case measure => (simp [intOf]; have := Nat.and_le_right (n := b) (m := b - 1); omega)

--%call l3Bits 117 same l3Bits_any _ ({0}) _
theorem l3Bits_any (a : Nat) (ha : a < 2 ^ 24) (w : World) :
    Calls Try.prog 117 #[.int .i64 a] w fun e w' => e = .returned (.int .i64 (cnt a : Int)) ∧ w = w' := by
  have hc := cnt_le a
  go_enter Try.func117, Try.ntmps117
  go_wp2_with fail
  go_loop [3, 4] (fun n x => ∃ b m : Nat, b < 2 ^ 24 ∧ m + cnt b = cnt a ∧ x = .int .i64 b ∧ n = .int .i64 m) (fun _ x => (intOf x).toNat)
  case atStart => exact ⟨a, 0, ha, by omega, rfl, rfl⟩
  case round =>
    obtain ⟨b, m, hb, hm, rfl, rfl⟩ := hrel
    have Hm := Lib.hid hm
    have hm' : m ≤ 24 := by omega
    clear hm
    by_cases h0 : b = 0
    · subst h0
      go_wp2_with fail
      go_ret
      exact ⟨ret_int (by have := Hm.out; rw [cnt_zero] at this; omega), rfl⟩
    · have hpos : 0 < (b : Int) := by omega
      have hb2 : b < 16777216 := hb
      have hand : iand (b : Int) 1 = ((b % 2 : Nat) : Int) := iand_one (by omega)
      have hshr : ishr (b : Int) 1 = ((shr b 1 : Nat) : Int) := ishr_nat (a := b) (n := 1) (by omega)
      have hmod : b % 2 ≤ 1 := by omega
      go_wp2_with fail
      go_round
      case rel => exact ⟨b / 2, m + b % 2, by omega, by have := cnt_half b hb; have := Hm.out; omega, by rw [shr_one], by go_num⟩
      case measure => (simp [intOf, shr_one]; omega)
end Go.Zz
