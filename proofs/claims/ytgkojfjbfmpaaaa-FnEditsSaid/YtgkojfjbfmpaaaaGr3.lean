/- What the functions on groups and counts return: second part. -/
import Derived.Test.YtgkojfjbfmpaaaaGr2
import Derived.Deep.RegionHeld3
import Derived.Deep.RegionWith
namespace Go.Zz
open Go.RowKit Go.Proofs
set_option maxHeartbeats 400000

--%call OrderOf 81 ext OrderOf_any _ _ _ ({0})
theorem OrderOf_any (v : Value) (l : List Int) (w : World) (h : Ints w v l) :
    Calls Try.prog 81 #[.agg #[v]] w fun e w' => e = .returned (.int .i64 (ordF l)) ∧ Ext w w' := by
  have hI := h
  obtain ⟨ao, c, adr, rfl, hlen, hadr, hcell⟩ := h.op
  have hix := ints_index (c := c) elI szI hadr
  clear hadr
  have hE0 := (Ext.refl w).alloc (.cells #[(.slice ao l.length c)] 26)
  have hE := Ext.refl (w.alloc (.cells #[(.slice ao l.length c)] 26))
  have hb := box_cell w (.slice ao l.length c) 26
  have hg : ∀ W, Ext (w.alloc (.cells #[(.slice ao l.length c)] 26)) W → Ints W (.slice ao l.length c) l := fun W hW => h.ext (hE0.trans hW)
  clear h
  cases hgr : isGrp l
  · have Hgr := Lib.hid hgr
    go_enter Try.func81, Try.ntmps81
    go_wp2_with (first | (go_at_call 128; refine (IsGroup_any _ _ _ (hg _ hE)).mono ?_; rintro e w' ⟨rfl, hE'⟩; replace hE := hE.trans hE'; clear hE'))
    go_ret
    exact ⟨ret_int (ordF_f Hgr.out).symm, hE0.trans hE⟩
  · have Hgr := Lib.hid hgr
    go_enter Try.func81, Try.ntmps81
    go_wp2_with (first | (go_at_call 128; refine (IsGroup_any _ _ _ (hg _ hE)).mono ?_; rintro e w' ⟨rfl, hE'⟩; replace hE := hE.trans hE'; clear hE'))
    clear hgr
    have h3 := isGrp_len Hgr.out
    have hck : ∀ i, i < l.length → World.cell? _ (adr i) = _ := fun i hi => hcell i _ hi (hE0.trans hE)
    go_loop [3, 12] (fun n i => ∃ k : Nat, k ≤ l.length ∧ n = .int .i64 (prodL (l.take k)) ∧ i = .int .i64 k) (fun _ i => l.length - (intOf i).toNat)
    case atStart => exact ⟨0, by omega, rfl, rfl⟩
    case round =>
      obtain ⟨k, hk, rfl, rfl⟩ := hrel
      obtain ⟨hb0, hb1⟩ := prodL_bd3 k l hk (by omega) (fun j hj => isGrp_nth Hgr.out (by omega))
      by_cases hlt : k < l.length
      · have hin := isGrp_nth Hgr.out hlt
        obtain ⟨hm1, hm2⟩ := mul_fits hb0 hb1 hin.1 hin.2
        go_wp2_with fail
        go_round
        case rel => exact ⟨k + 1, by omega, by rw [prodL_take l k hlt], by go_num⟩
        case measure => (simp [intOf]; omega)
      · have hkl : k = l.length := by omega
        subst hkl
        rw [List.take_length] at *
        go_wp2_with fail
        go_ret
        exact ⟨ret_int (by unfold ordF; rw [if_pos Hgr.out]), hE0.trans hE⟩

--%call l2Order 84 ext l2Order_any _ _ _ ({0}) ({1})
theorem l2Order_any (v : Value) (l : List Int) (w : World) (h : Ints w v l) (Hgr : Hid (isGrp l = true)) :
    Calls Try.prog 84 #[.agg #[v]] w fun e w' => e = .returned (.int .i64 (ord l : Int)) ∧ Ext w w' := by
  obtain ⟨ao, c, adr, rfl, hlen, hadr, hcell⟩ := h.op
  have hix := ints_index (c := c) elI szI hadr
  clear hadr h
  have hE0 := (Ext.refl w).alloc (.cells #[.slice ao l.length c] 26)
  have h3 := isGrp_len Hgr.out
  go_enter Try.func84, Try.ntmps84
  go_wp2_with fail
  go_loop [3, 4] (fun n i => ∃ k : Nat, k ≤ l.length ∧ n = .int .i64 (prodL (l.take k)) ∧ i = .int .i64 k) (fun _ i => l.length - (intOf i).toNat)
  case atStart => exact ⟨0, by omega, rfl, rfl⟩
  case round =>
    obtain ⟨k, hk, rfl, rfl⟩ := hrel
    obtain ⟨hb0, hb1⟩ := prodL_bd3 k l hk (by omega) (fun j hj => isGrp_nth Hgr.out (by omega))
    by_cases hlt : k < l.length
    · have hck := hcell k _ hlt hE0
      have hin := isGrp_nth Hgr.out hlt
      obtain ⟨hm1, hm2⟩ := mul_fits hb0 hb1 hin.1 hin.2
      go_wp2_with fail
      go_round
      case rel => exact ⟨k + 1, by omega, by rw [prodL_take l k hlt], by go_num⟩
      case measure => (simp [intOf]; omega)
    · have hkl : k = l.length := by omega
      subst hkl
      rw [List.take_length] at *
      go_wp2_with fail
      go_ret
      exact ⟨ret_int (ord_cast Hgr.out).symm, hE0⟩

--%call IsSet 66 ext IsSet_any _ _ _ _ ({0})
theorem IsSet_any (v : Value) (l : List Int) (a : Int) (w : World) (h : Ints w v l) :
    Calls Try.prog 66 #[.agg #[v], .int .i64 a] w fun e w' => e = .returned (.bool (isSetB l a)) ∧ Ext w w' := by
  have hE0 := (Ext.refl w).alloc (.cells #[v] 26)
  have hE := Ext.refl (w.alloc (.cells #[v] 26))
  have hb := box_cell w v 26
  have hg : ∀ W, Ext (w.alloc (.cells #[v] 26)) W → Ints W v l := fun W hW => h.ext (hE0.trans hW)
  clear h
  cases hgr : isGrp l
  · have Hgr := Lib.hid hgr
    go_enter Try.func66, Try.ntmps66
    go_wp2_with (first | (go_at_call 128; refine (IsGroup_any _ _ _ (hg _ hE)).mono ?_; rintro e w' ⟨rfl, hE'⟩; replace hE := hE.trans hE'; clear hE'))
    go_ret
    exact ⟨ret_bool (by unfold isSetB; rw [Hgr.out]; rfl), hE0.trans hE⟩
  · have Hgr := Lib.hid hgr
    have hord := ordF_t hgr
    have hsh := ishl_one (n := ord l) (by have := ord_bd hgr; omega)
    by_cases h0 : 0 ≤ a
    · go_enter Try.func66, Try.ntmps66
      go_wp2_with (first | (go_at_call 128; refine (IsGroup_any _ _ _ (hg _ hE)).mono ?_; rintro e w' ⟨rfl, hE'⟩; replace hE := hE.trans hE'; clear hE') | (go_at_call 81; refine (OrderOf_any _ _ _ (hg _ hE)).mono ?_; rintro e w' ⟨rfl, hE'⟩; replace hE := hE.trans hE'; clear hE'))
      go_ret
      exact ⟨ret_bool (by have := pw_int (ord l); unfold isSetB; rw [Hgr.out, Bool.eq_iff_iff]; simp; omega), hE0.trans hE⟩
    · go_enter Try.func66, Try.ntmps66
      go_wp2_with (first | (go_at_call 128; refine (IsGroup_any _ _ _ (hg _ hE)).mono ?_; rintro e w' ⟨rfl, hE'⟩; replace hE := hE.trans hE'; clear hE') | (go_at_call 81; refine (OrderOf_any _ _ _ (hg _ hE)).mono ?_; rintro e w' ⟨rfl, hE'⟩; replace hE := hE.trans hE'; clear hE'))
      go_ret
      exact ⟨ret_bool (by unfold isSetB; rw [Hgr.out]; simp; omega), hE0.trans hE⟩

--%call sIsSet 73 ext sIsSet_any _ _ _ _ ({0})
theorem sIsSet_any (v : Value) (l : List Int) (a : Int) (w : World) (h : Ints w v l) :
    Calls Try.prog 73 #[.agg #[v], .int .i64 a] w fun e w' => e = .returned (.bool (isSetB l a)) ∧ Ext w w' := by
  have hE0 := (Ext.refl w).alloc (.cells #[v] 26)
  have hE := Ext.refl (w.alloc (.cells #[v] 26))
  have hb := box_cell w v 26
  have hg : ∀ W, Ext (w.alloc (.cells #[v] 26)) W → Ints W v l := fun W hW => h.ext (hE0.trans hW)
  clear h
  cases hgr : isGrp l
  · have Hgr := Lib.hid hgr
    go_enter Try.func73, Try.ntmps73
    go_wp2_with (first | (go_at_call 90; refine (sIsGroup_any _ _ _ (hg _ hE)).mono ?_; rintro e w' ⟨rfl, hE'⟩; replace hE := hE.trans hE'; clear hE'))
    go_ret
    exact ⟨ret_bool (by unfold isSetB; rw [Hgr.out]; rfl), hE0.trans hE⟩
  · have Hgr := Lib.hid hgr
    have hsh := ishl_one (n := ord l) (by have := ord_bd hgr; omega)
    have hp1 := pw_pos (ord l)
    have hp2 := pw_le (ord_bd hgr).2
    go_enter Try.func73, Try.ntmps73
    go_wp2_with (first | (go_at_call 90; refine (sIsGroup_any _ _ _ (hg _ hE)).mono ?_; rintro e w' ⟨rfl, hE'⟩; replace hE := hE.trans hE'; clear hE') | (go_at_call 84; refine (l2Order_any _ _ _ (hg _ hE) (Hgr)).mono ?_; rintro e w' ⟨rfl, hE'⟩; replace hE := hE.trans hE'; clear hE') | (go_at_call 141; refine (l1In_any _ _ _ _).mono ?_; rintro e w' ⟨rfl, rfl⟩))
    go_ret
    exact ⟨ret_bool (by have := pw_int (ord l); unfold isSetB inB; rw [Hgr.out, Bool.eq_iff_iff]; simp; omega), hE0.trans hE⟩

--%call bits 83 same bits_any _ ({0}) _
theorem bits_any (a : Nat) (ha : a < 2 ^ 24) (w : World) :
    Calls Try.prog 83 #[.int .i64 a] w fun e w' => e = .returned (.int .i64 (cnt a : Int)) ∧ w = w' := by
  have hc := cnt_le a
  go_enter Try.func83, Try.ntmps83
  go_wp2_with fail
  go_loop [0, 3] (fun x n => ∃ b m : Nat, b < 2 ^ 24 ∧ m + cnt b = cnt a ∧ x = .int .i64 b ∧ n = .int .i64 m) (fun x _ => (intOf x).toNat)
  case atStart => exact ⟨a, 0, ha, by omega, rfl, rfl⟩
  case round =>
    obtain ⟨b, m, hb, hm, rfl, rfl⟩ := hrel
    have Hm := Lib.hid hm
    have hm' : m ≤ 24 := by omega
    clear hm
    by_cases h0 : b = 0
    · subst h0
      go_wp2_with fail
      go_ret
      exact ⟨ret_int (by have := Hm.out; rw [cnt_zero] at this; omega), rfl⟩
    · have hne : ((b : Int) != 0) = true := by simp; omega
      have hb2 : b < 16777216 := hb
      have e1 : (b : Int) - 1 = ((b - 1 : Nat) : Int) := by omega
      have hand : iand (b : Int) ((b : Int) - 1) = ((b &&& (b - 1) : Nat) : Int) := by rw [e1]; exact iand_nat (by omega) (by omega)
      clear e1
      go_wp2_with fail
      go_round
      case rel => exact ⟨b &&& (b - 1), m + 1, Nat.and_lt_two_pow _ (by omega), by have := cnt_drop (by omega : 0 < b) hb; have := Hm.out; omega, rfl, by go_num⟩
      case measure => (simp [intOf]; have := Nat.and_le_right (n := b) (m := b - 1); omega)

--%call l3Bits 85 same l3Bits_any _ ({0}) _
theorem l3Bits_any (a : Nat) (ha : a < 2 ^ 24) (w : World) :
    Calls Try.prog 85 #[.int .i64 a] w fun e w' => e = .returned (.int .i64 (cnt a : Int)) ∧ w = w' := by
  have hc := cnt_le a
  go_enter Try.func85, Try.ntmps85
  go_wp2_with fail
  go_loop [3, 4] (fun n x => ∃ b m : Nat, b < 2 ^ 24 ∧ m + cnt b = cnt a ∧ x = .int .i64 b ∧ n = .int .i64 m) (fun _ x => (intOf x).toNat)
  case atStart => exact ⟨a, 0, ha, by omega, rfl, rfl⟩
  case round =>
    obtain ⟨b, m, hb, hm, rfl, rfl⟩ := hrel
    have Hm := Lib.hid hm
    have hm' : m ≤ 24 := by omega
    clear hm
    by_cases h0 : b = 0
    · subst h0
      go_wp2_with fail
      go_ret
      exact ⟨ret_int (by have := Hm.out; rw [cnt_zero] at this; omega), rfl⟩
    · have hpos : 0 < (b : Int) := by omega
      have hb2 : b < 16777216 := hb
      have hand : iand (b : Int) 1 = ((b % 2 : Nat) : Int) := iand_one (by omega)
      have hshr : ishr (b : Int) 1 = ((shr b 1 : Nat) : Int) := ishr_nat (a := b) (n := 1) (by omega)
      have hmod : b % 2 ≤ 1 := by omega
      go_wp2_with fail
      go_round
      case rel => exact ⟨b / 2, m + b % 2, by omega, by have := cnt_half b hb; have := Hm.out; omega, by rw [shr_one], by go_num⟩
      case measure => (simp [intOf, shr_one]; omega)
end Go.Zz

/- Elements and sets: members, add, shift, sum. -/
namespace Go.Zz
open Go.RowKit Go.Proofs
set_option maxHeartbeats 400000

--%call members 139 list members_any _ ({0}) _
theorem members_any (a : Nat) (ha : a < 2 ^ 24) (w : World) :
    Calls Try.prog 139 #[.int .i64 a] w fun e w' => ∃ v, e = .returned v ∧ Own 3 w w' v (castL (elems a)) ∧ Ext w w' := by
  have hO0 := own_made (TI := 3) (n := 0) (by omega) (Ext.refl w) [] rfl
  have hE0 := (Ext.refl w).alloc (.cells #[] 3)
  go_enter Try.func139, Try.ntmps139
  go_wp2_with fail
  go_loopw [3, 4] (fun v x wr => ∃ k : Nat, k ≤ 24 ∧ x = .int .i64 k ∧ Own 3 w wr v (castL (elemsTo a k)) ∧ Ext w wr) (fun _ x _ => 24 - (intOf x).toNat)
  case atStart => exact ⟨0, by omega, rfl, hO0, hE0⟩
  case round =>
    obtain ⟨k, hk, rfl, hO, hE⟩ := hrel
    have hsh := ishr_nat (a := a) (n := k) (by omega)
    by_cases h0 : shr a k = 0
    · have he := Lib.hid (elemsTo_all hk (shr_zero.1 h0))
      have h0' : ((shr a k : Nat) : Int) = 0 := by rw [h0]; rfl
      clear h0
      go_wp2_with fail
      go_ret
      exact ⟨_, rfl, by rw [← he.out]; exact hO, hE⟩
    · have hlt := shr_pos h0 ha
      have hne := ne_zero_t h0
      have hbt := bit_test' (a := a) (n := k) (by omega) (by omega)
      have hs := Lib.hid (elemsTo_succ a k)
      have hln : (castL (elemsTo a k)).length ≤ 24 := by rw [castL_len]; have := elemsTo_len a k; omega
      clear h0
      cases hb : a.testBit k
      · rw [hb] at hbt
        have Hb := Lib.hid hb
        clear hb
        go_wp2_with fail
        go_roundw
        case rel => exact ⟨k + 1, by omega, by go_num, by rw [hs.out, Hb.out]; simpa using hO, hE⟩
        case measure => (simp [intOf]; omega)
      · rw [hb] at hbt
        have Hb := Lib.hid hb
        clear hb
        go_wp2_with (at_builtin; refine wp_append1 slI rfl _ _ rfl w _ _ _ _ hO hE (by omega) rfl rfl ?_; intro v1 w1 hO1 hE1)
        go_roundw
        case rel => exact ⟨k + 1, by omega, by go_num, by rw [hs.out, Hb.out]; simpa [castL_snoc] using hO1, hE1⟩
        case measure => (simp [intOf]; omega)

--%call l3List 137 list l3List_any _ ({0}) _
theorem l3List_any (a : Nat) (ha : a < 2 ^ 24) (w : World) :
    Calls Try.prog 137 #[.int .i64 a] w fun e w' => ∃ v, e = .returned v ∧ Own 3 w w' v (castL (elems a)) ∧ Ext w w' := by
  have hO0 := own_made (TI := 3) (n := 0) (by omega) (Ext.refl w) [] rfl
  have hE0 := (Ext.refl w).alloc (.cells #[] 3)
  go_enter Try.func137, Try.ntmps137
  go_wp2_with fail
  go_loopw [3, 4, 5] (fun v i x wr => ∃ k : Nat, k ≤ 24 ∧ i = .int .i64 k ∧ x = .int .i64 ((shr a k : Nat) : Int) ∧ Own 3 w wr v (castL (elemsTo a k)) ∧ Ext w wr) (fun _ i _ _ => 24 - (intOf i).toNat)
  case atStart => exact ⟨0, by omega, rfl, rfl, hO0, hE0⟩
  case round =>
    obtain ⟨k, hk, rfl, rfl, hO, hE⟩ := hrel
    by_cases h0 : shr a k = 0
    · have he := Lib.hid (elemsTo_all hk (shr_zero.1 h0))
      have h0' : ((shr a k : Nat) : Int) = 0 := by rw [h0]; rfl
      clear h0
      go_wp2_with fail
      go_ret
      exact ⟨_, rfl, by rw [← he.out]; exact hO, hE⟩
    · have hlt := shr_pos h0 ha
      have hpos : 0 < ((shr a k : Nat) : Int) := by omega
      have hbt := bit_test' (a := a) (n := k) (by omega) (by omega)
      have hsh : ishr ((shr a k : Nat) : Int) 1 = ((shr a (k + 1) : Nat) : Int) := by rw [← shr_shr]; exact ishr_nat (n := 1) (by omega)
      have hs := Lib.hid (elemsTo_succ a k)
      have hln : (castL (elemsTo a k)).length ≤ 24 := by rw [castL_len]; have := elemsTo_len a k; omega
      clear h0
      cases hb : a.testBit k
      · rw [hb] at hbt
        have Hb := Lib.hid hb
        clear hb
        go_wp2_with fail
        go_roundw
        case rel => exact ⟨k + 1, by omega, by go_num, rfl, by rw [hs.out, Hb.out]; simpa using hO, hE⟩
        case measure => (simp [intOf]; omega)
      · rw [hb] at hbt
        have Hb := Lib.hid hb
        clear hb
        go_wp2_with (at_builtin; refine wp_append1 slI rfl _ _ rfl w _ _ _ _ hO hE (by omega) rfl rfl ?_; intro v1 w1 hO1 hE1)
        go_roundw
        case rel => exact ⟨k + 1, by omega, by go_num, rfl, by rw [hs.out, Hb.out]; simpa [castL_snoc] using hO1, hE1⟩
        case measure => (simp [intOf]; omega)
end Go.Zz

/- Elements and sets: add, shift, sum, areSets, FullSet. -/
namespace Go.Zz
open Go.RowKit Go.Proofs
set_option maxHeartbeats 400000

/-- while the places are added: what is left is below -/
theorem add_inv {s u t A : Nat} (h : s + u * t = A) (hA : A < 24) : s < 24 := by omega
theorem wrapN (n : Nat) (h : n ≤ 9223372036854775807) : wrap64 (n : Int) = (n : Int) := IntWalk.wrap64_in _ (by omega)
theorem div_val {x q : Nat} (hx : x ≤ 16777216) : Value.int .i64 (wrap64 ((x : Int) / (q : Int))) = .int .i64 ((x / q : Nat) : Int) := by
  have h := Nat.div_le_self x q
  rw [show ((x : Int) / (q : Int)) = ((x / q : Nat) : Int) from (Int.natCast_ediv x q).symm]
  generalize x / q = d at h ⊢
  rw [wrapN d (by omega)]
theorem mul_val (u q : Nat) : Value.int .i64 ((u : Int) * (q : Int)) = .int .i64 ((u * q : Nat) : Int) := by rw [Int.natCast_mul]
theorem step_val {x y q s u : Nat} (hs : s < 24) (h0 : 0 ≤ ((x : Int) % (q : Int) + (y : Int) % (q : Int)) % (q : Int) * (u : Int)) (h1 : ((x : Int) % (q : Int) + (y : Int) % (q : Int)) % (q : Int) * (u : Int) ≤ 331776) :
    Value.int .i64 (wrap64 ((s : Int) + wrap64 (((x : Int) + (y : Int)) % (q : Int) * (u : Int)))) = .int .i64 ((s + ((x % q + y % q) % q) * u : Nat) : Int) := by
  have c2 : ((((x % q + y % q) % q) * u : Nat) : Int) = ((x : Int) % (q : Int) + (y : Int) % (q : Int)) % (q : Int) * (u : Int) := by
    rw [Int.natCast_mul, Int.natCast_emod, Int.natCast_add, Int.natCast_emod, Int.natCast_emod]
  rw [← c2] at h0 h1
  rw [show ((x : Int) + (y : Int)) % (q : Int) * (u : Int) = ((((x % q + y % q) % q) * u : Nat) : Int) from by rw [c2, Int.add_emod]]
  generalize ((x % q + y % q) % q) * u = d at h0 h1 ⊢
  rw [wrapN d (by omega), ← Int.natCast_add, wrapN (s + d) (by omega)]
theorem add_next {s u d q t A : Nat} (h : s + u * (d + q * t) = A) : (s + d * u) + (u * q) * t = A := by
  rw [Nat.mul_add, ← Nat.mul_assoc, Nat.mul_comm u d] at h; omega
--%call add 140 ext add_any _ _ _ _ _ ({0}) ({1}) ({2}) ({3})
theorem add_any (v : Value) (l : List Int) (x y : Nat) (w : World) (h : Ints w v l) (Hgr : Hid (isGrp l = true)) (hx : x < 16777216) (hy : y < 16777216) :
    Calls Try.prog 140 #[.agg #[v], .int .i64 x, .int .i64 y] w fun e w' => e = .returned (.int .i64 (addF l x y)) ∧ Ext w w' := by
  obtain ⟨ao, c, adr, rfl, hlen, hadr, hcell⟩ := h.op
  have hix := ints_index (c := c) elI szI hadr
  clear hadr h
  obtain ⟨wb, hwb⟩ : ∃ wb, wb = w.alloc (.cells #[.slice ao l.length c] 26) := ⟨_, rfl⟩
  have hE0 := (Ext.refl w).alloc (.cells #[.slice ao l.length c] 26)
  rw [← hwb] at hE0
  have hE := Ext.refl wb
  have Hwb := Lib.hid hwb
  have hA := addF_bd Hgr.out x y
  have h3 := isGrp_len Hgr.out
  clear hwb
  go_enter Try.func140, Try.ntmps140
  go_wp2_with fail
  rw [← Hwb.out]
  go_loopw [1, 2, 7, 8, 14] (fun xv yv sv uv i wr => ∃ k x' y' s u : Nat, k ≤ l.length ∧ x' ≤ x ∧ y' ≤ y ∧ s + u * addF (l.drop k) x' y' = addF l x y ∧ (u : Int) = prodL (l.take k) ∧ xv = .int .i64 x' ∧ yv = .int .i64 y' ∧ sv = .int .i64 s ∧ uv = .int .i64 u ∧ i = .int .i64 k ∧ Ext wb wr) (fun _ _ _ _ i _ => l.length - (intOf i).toNat)
  case atStart => exact ⟨0, x, y, 0, 1, by omega, by omega, by omega, by simp, by simp [prodL], rfl, rfl, rfl, rfl, rfl, hE⟩
  case round =>
    clear hE
    obtain ⟨k, x', y', s, u, hk, hx', hy', hs, hu, rfl, rfl, rfl, rfl, rfl, hE⟩ := hrel
    have hsb := add_inv hs hA
    obtain ⟨hu1, hu2⟩ := prodL_bd3 k l hk (by omega) (fun j hj => isGrp_nth Hgr.out (by omega))
    rw [← hu] at hu1 hu2
    have Hs := Lib.hid hs
    have Hu := Lib.hid hu
    clear hs hu hA
    by_cases hlt : k < l.length
    · have hck := hcell k _ hlt (hE0.trans hE)
      obtain ⟨hq1, hq2⟩ := isGrp_nth Hgr.out hlt
      obtain ⟨q, hq⟩ := Int.eq_ofNat_of_zero_le (show 0 ≤ nth l k by omega)
      have Hst := Lib.hid (addF_step hlt hq x' y')
      have hu' : nth l k * prodL (l.take k) = prodL (l.take (k + 1)) := by rw [prodL_take l k hlt, Int.mul_comm]
      have Hu2 := Lib.hid hu'
      rw [hq] at hq1 hq2
      have Hq := Lib.hid hq
      have hd : (x' % q + y' % q) % q < 24 := Nat.lt_of_lt_of_le (Nat.mod_lt _ (by omega)) (by omega)
      have hm1 : ((x' % q + y' % q) % q) * u ≤ 24 * 13824 := Nat.mul_le_mul (by omega) (by omega)
      have hm2 : u * q ≤ 13824 * 24 := Nat.mul_le_mul (by omega) (by omega)
      have c1 : ((x' % q + y' % q : Nat) : Int) = (x' : Int) % (q : Int) + (y' : Int) % (q : Int) := by simp
      have c2 : ((((x' % q + y' % q) % q) * u : Nat) : Int) = ((x' : Int) % (q : Int) + (y' : Int) % (q : Int)) % (q : Int) * (u : Int) := by rw [Int.natCast_mul, Int.natCast_emod, c1]
      have c3 : ((u * q : Nat) : Int) = (u : Int) * (q : Int) := Int.natCast_mul _ _
      have b1 : (x' : Int) % (q : Int) < 24 := by have := Int.emod_lt_of_pos (x' : Int) (show (0:Int) < q by omega); omega
      have b2 : (y' : Int) % (q : Int) < 24 := by have := Int.emod_lt_of_pos (y' : Int) (show (0:Int) < q by omega); omega
      have b3 : 0 ≤ (x' : Int) % (q : Int) := Int.emod_nonneg _ (by omega)
      have b4 : 0 ≤ (y' : Int) % (q : Int) := Int.emod_nonneg _ (by omega)
      have b5 : ((x' : Int) % (q : Int) + (y' : Int) % (q : Int)) % (q : Int) * (u : Int) ≤ 331776 := by rw [← c2]; omega
      have b6 : 0 ≤ ((x' : Int) % (q : Int) + (y' : Int) % (q : Int)) % (q : Int) * (u : Int) := by rw [← c2]; omega
      have b7 : (u : Int) * (q : Int) ≤ 331776 := by rw [← c3]; omega
      have b8 : 0 ≤ (u : Int) * (q : Int) := by rw [← c3]; omega
      have C2 := Lib.hid c2
      have C3 := Lib.hid c3
      clear c1 c2 c3 hd hm1 hm2 hu'
      go_wp2_with fail
      (refine wp_region_lat (wb) (by kernel_rfl) (by kernel_rfl) hE ?_); (repeat (go_big_quiet_step (first | fail))); (refine wpQuiet_nil ?_); (intro W hE'); (replace hE := lat_of hE'); (clear hE')
      go_wp2_with fail
      (refine wp_region_lat (wb) (by kernel_rfl) (by kernel_rfl) hE ?_); (repeat (go_big_quiet_step (first | fail))); (refine wpQuiet_nil ?_); (intro W hE'); (replace hE := lat_of hE'); (clear hE')
      go_wp2_with fail
      go_roundw
      case rel =>
        refine ⟨k + 1, x' / q, y' / q, s + ((x' % q + y' % q) % q) * u, u * q, by omega, Nat.le_trans (Nat.div_le_self _ _) hx', Nat.le_trans (Nat.div_le_self _ _) hy', ?_, ?_, ?_, ?_, ?_, ?_, by go_num, hE⟩
        · apply add_next
          rw [← Hst.out]; exact Hs.out
        · rw [← Hu2.out, ← Hu.out, Hq.out]; push_cast; rw [Int.mul_comm]
        · exact div_val (Nat.le_trans hx' (Nat.le_of_lt hx))
        · exact div_val (Nat.le_trans hy' (Nat.le_of_lt hy))
        · exact step_val hsb b6 b5
        · exact mul_val u q
      case measure => (simp [intOf]; omega)
    · have hkl : k = l.length := by omega
      subst hkl
      go_wp2_with fail
      go_ret
      exact ⟨ret_int (by have := Hs.out; rw [List.drop_length] at this; simp [addF] at this; omega), hE0.trans hE⟩
end Go.Zz

/- The reference's sum of elements, and shifted sets. -/
namespace Go.Zz
open Go.RowKit Go.Proofs
set_option maxHeartbeats 400000

--%call l2Add 138 ext l2Add_any _ _ _ _ _ ({0}) ({1}) ({2}) ({3})
theorem l2Add_any (v : Value) (l : List Int) (x y : Nat) (w : World) (h : Ints w v l) (Hgr : Hid (isGrp l = true)) (hx : x < 16777216) (hy : y < 16777216) :
    Calls Try.prog 138 #[.agg #[v], .int .i64 x, .int .i64 y] w fun e w' => e = .returned (.int .i64 (addF l x y)) ∧ Ext w w' := by
  obtain ⟨ao, c, adr, rfl, hlen, hadr, hcell⟩ := h.op
  have hix := ints_index (c := c) elI szI hadr
  clear hadr h
  obtain ⟨wb, hwb⟩ : ∃ wb, wb = w.alloc (.cells #[.slice ao l.length c] 26) := ⟨_, rfl⟩
  have hE0 := (Ext.refl w).alloc (.cells #[.slice ao l.length c] 26)
  have hb := box_cell w (.slice ao l.length c) 26
  rw [← hwb] at hE0 hb
  have hE := Ext.refl wb
  have Hwb := Lib.hid hwb
  have hA := addF_bd Hgr.out x y
  have h3 := isGrp_len Hgr.out
  clear hwb
  go_enter Try.func138, Try.ntmps138
  go_wp2_with fail
  rw [← Hwb.out]
  go_loopw [1, 2, 7, 8, 9] (fun xv yv sv uv i wr => ∃ k x' y' s u : Nat, k ≤ l.length ∧ x' ≤ x ∧ y' ≤ y ∧ s + u * addF (l.drop k) x' y' = addF l x y ∧ (u : Int) = prodL (l.take k) ∧ xv = .int .i64 x' ∧ yv = .int .i64 y' ∧ sv = .int .i64 s ∧ uv = .int .i64 u ∧ i = .int .i64 k ∧ Ext wb wr) (fun _ _ _ _ i _ => l.length - (intOf i).toNat)
  case atStart => exact ⟨0, x, y, 0, 1, by omega, by omega, by omega, by simp, by simp [prodL], rfl, rfl, rfl, rfl, rfl, hE⟩
  case round =>
    clear hE
    obtain ⟨k, x', y', s, u, hk, hx', hy', hs, hu, rfl, rfl, rfl, rfl, rfl, hE⟩ := hrel
    have hsb := add_inv hs hA
    have hbx := hb wr hE
    obtain ⟨hu1, hu2⟩ := prodL_bd3 k l hk (by omega) (fun j hj => isGrp_nth Hgr.out (by omega))
    rw [← hu] at hu1 hu2
    have Hs := Lib.hid hs
    have Hu := Lib.hid hu
    clear hs hu hA
    by_cases hlt : k < l.length
    · have hck := hcell k _ hlt (hE0.trans hE)
      obtain ⟨hq1, hq2⟩ := isGrp_nth Hgr.out hlt
      obtain ⟨q, hq⟩ := Int.eq_ofNat_of_zero_le (show 0 ≤ nth l k by omega)
      have Hst := Lib.hid (addF_step hlt hq x' y')
      have hu' : nth l k * prodL (l.take k) = prodL (l.take (k + 1)) := by rw [prodL_take l k hlt, Int.mul_comm]
      have Hu2 := Lib.hid hu'
      rw [hq] at hq1 hq2
      have Hq := Lib.hid hq
      have hd : (x' % q + y' % q) % q < 24 := Nat.lt_of_lt_of_le (Nat.mod_lt _ (by omega)) (by omega)
      have hm1 : ((x' % q + y' % q) % q) * u ≤ 24 * 13824 := Nat.mul_le_mul (by omega) (by omega)
      have hm2 : u * q ≤ 13824 * 24 := Nat.mul_le_mul (by omega) (by omega)
      have c1 : ((x' % q + y' % q : Nat) : Int) = (x' : Int) % (q : Int) + (y' : Int) % (q : Int) := by simp
      have c2 : ((((x' % q + y' % q) % q) * u : Nat) : Int) = ((x' : Int) % (q : Int) + (y' : Int) % (q : Int)) % (q : Int) * (u : Int) := by rw [Int.natCast_mul, Int.natCast_emod, c1]
      have c3 : ((u * q : Nat) : Int) = (u : Int) * (q : Int) := Int.natCast_mul _ _
      have b1 : (x' : Int) % (q : Int) < 24 := by have := Int.emod_lt_of_pos (x' : Int) (show (0:Int) < q by omega); omega
      have b2 : (y' : Int) % (q : Int) < 24 := by have := Int.emod_lt_of_pos (y' : Int) (show (0:Int) < q by omega); omega
      have b3 : 0 ≤ (x' : Int) % (q : Int) := Int.emod_nonneg _ (by omega)
      have b4 : 0 ≤ (y' : Int) % (q : Int) := Int.emod_nonneg _ (by omega)
      have b5 : ((x' : Int) % (q : Int) + (y' : Int) % (q : Int)) % (q : Int) * (u : Int) ≤ 331776 := by rw [← c2]; omega
      have b6 : 0 ≤ ((x' : Int) % (q : Int) + (y' : Int) % (q : Int)) % (q : Int) * (u : Int) := by rw [← c2]; omega
      have b7 : (u : Int) * (q : Int) ≤ 331776 := by rw [← c3]; omega
      have b8 : 0 ≤ (u : Int) * (q : Int) := by rw [← c3]; omega
      have C2 := Lib.hid c2
      have C3 := Lib.hid c3
      clear c1 c2 c3 hd hm1 hm2 hu'
      go_wp2_with fail
      (refine wp_region_lat (wb) (by kernel_rfl) (by kernel_rfl) hE ?_); (repeat (go_big_quiet_step (first | fail))); (refine wpQuiet_nil ?_); (intro W hE'); (replace hE := lat_of hE'); (clear hE')
      go_wp2_with fail
      go_roundw
      case rel =>
        refine ⟨k + 1, x' / q, y' / q, s + ((x' % q + y' % q) % q) * u, u * q, by omega, Nat.le_trans (Nat.div_le_self _ _) hx', Nat.le_trans (Nat.div_le_self _ _) hy', ?_, ?_, ?_, ?_, ?_, ?_, by go_num, hE⟩
        · apply add_next
          rw [← Hst.out]; exact Hs.out
        · rw [← Hu2.out, ← Hu.out, Hq.out]; push_cast; rw [Int.mul_comm]
        · exact div_val (Nat.le_trans hx' (Nat.le_of_lt hx))
        · exact div_val (Nat.le_trans hy' (Nat.le_of_lt hy))
        · exact step_val hsb b6 b5
        · exact mul_val u q
      case measure => (simp [intOf]; omega)
    · have hkl : k = l.length := by omega
      subst hkl
      go_wp2_with fail
      go_ret
      exact ⟨ret_int (by have := Hs.out; rw [List.drop_length] at this; simp [addF] at this; omega), hE0.trans hE⟩
end Go.Zz

/- Shifted sets and sums of sets. -/
namespace Go.Zz
open Go.RowKit Go.Proofs
set_option maxHeartbeats 400000

theorem Ints.nats {w : World} {v : Value} {L : List Nat} (h : Ints w v (castL L)) :
    ∃ (ao : Option Addr) (c : Nat) (adr : Nat → Addr), v = .slice ao L.length c ∧
      (∀ i, i < L.length → ao = some (adr 0) ∧ adr i = (adr 0).add i) ∧
      (∀ i W, i < L.length → Ext w W → W.cell? (adr i) = some (.int .i64 (nthN L i : Int))) := by
  obtain ⟨ao, c, adr, rfl, _, h2, h3⟩ := h.op
  rw [castL_len] at h2 h3
  exact ⟨ao, c, adr, by rw [castL_len], h2, fun i W hi hW => by rw [h3 i W hi hW, nth_castL]⟩

/-- the shifts of the elements of a list -/
def shiftL (l : List Int) (L : List Nat) (x : Nat) : Nat := bset (L.map (fun y => addF l x y))
theorem shiftL_snoc (l : List Int) (L : List Nat) (y x : Nat) : shiftL l (L ++ [y]) x = shiftL l L x ||| 2 ^ addF l x y := by
  unfold shiftL; rw [List.map_append]; exact bset_snoc _ _
theorem shiftL_all (l : List Int) (a x : Nat) : shiftL l (elems a) x = shiftF l a x := rfl
theorem shiftL_bd {l : List Int} (h : isGrp l = true) (L : List Nat) (x : Nat) : shiftL l L x < 2 ^ 24 := by
  refine bset_lt fun y hy => ?_
  obtain ⟨z, _, rfl⟩ := List.mem_map.1 hy
  exact addF_bd h _ _
theorem shiftL_next (l : List Int) (a k x : Nat) (hb : a.testBit k = true) : shiftL l (elemsTo a (k + 1)) x = shiftL l (elemsTo a k) x ||| 2 ^ addF l x k := by
  rw [elemsTo_succ, hb, if_pos rfl, shiftL_snoc]
theorem shiftL_same (l : List Int) (a k x : Nat) (hb : a.testBit k = false) : shiftL l (elemsTo a (k + 1)) x = shiftL l (elemsTo a k) x := by
  rw [elemsTo_succ, hb]; simp

--%call shift 87 ext shift_any _ _ _ _ _ ({0}) ({1}) ({2}) ({3})
theorem shift_any (v : Value) (l : List Int) (a x : Nat) (w : World) (h : Ints w v l) (Hgr : Hid (isGrp l = true)) (ha : a < 2 ^ 24) (hx : x < 24) :
    Calls Try.prog 87 #[.agg #[v], .int .i64 a, .int .i64 x] w fun e w' => e = .returned (.int .i64 (shiftF l a x)) ∧ Ext w w' := by
  obtain ⟨wb, hwb⟩ : ∃ wb, wb = w.alloc (.cells #[v] 26) := ⟨_, rfl⟩
  have hE0 := (Ext.refl w).alloc (.cells #[v] 26)
  have hb := box_cell w v 26
  rw [← hwb] at hE0 hb
  have hg : ∀ W, Ext wb W → Ints W v l := fun W hW => h.ext (hE0.trans hW)
  have hE := Ext.refl wb
  have Hwb := Lib.hid hwb
  clear hwb h
  go_enter Try.func87, Try.ntmps87
  go_wp2_with fail
  rw [← Hwb.out]
  go_loopw [7, 8] (fun ov yv wr => ∃ k : Nat, k ≤ 24 ∧ yv = .int .i64 k ∧ ov = .int .i64 ((shiftL l (elemsTo a k) x : Nat) : Int) ∧ Ext wb wr) (fun _ y _ => 24 - (intOf y).toNat)
  case atStart => exact ⟨0, by omega, rfl, by simp [shiftL, elemsTo, bset], hE⟩
  case round =>
    clear hE
    obtain ⟨k, hk, rfl, rfl, hE⟩ := hrel
    have hbx := hb wr hE
    have hsh := ishr_nat (a := a) (n := k) (by omega)
    by_cases h0 : shr a k = 0
    · have he := Lib.hid (elemsTo_all hk (shr_zero.1 h0))
      have h0' : ((shr a k : Nat) : Int) = 0 := by rw [h0]; rfl
      clear h0
      go_wp2_with fail
      go_ret
      exact ⟨ret_int (by rw [he.out]; rfl), hE0.trans hE⟩
    · have hlt := shr_pos h0 ha
      have hne := ne_zero_t h0
      have hbt := bit_test' (a := a) (n := k) (by omega) (by omega)
      clear h0
      cases hb : a.testBit k
      · rw [hb] at hbt
        have Hb := Lib.hid (shiftL_same l a k x hb)
        clear hb
        go_wp2_with fail
        go_roundw
        case rel => exact ⟨k + 1, by omega, by go_num, by rw [Hb.out], hE⟩
        case measure => (simp [intOf]; omega)
      · rw [hb] at hbt
        have Hb := Lib.hid (shiftL_next l a k x hb)
        have hz := addF_bd Hgr.out x k
        have hs1 := ishl_one (n := addF l x k) (by omega)
        have hs2 := ior_pw (shiftL_bd Hgr.out (elemsTo a k) x) hz
        clear hb
        go_wp2_with (first | (go_at_call 140; refine (add_any _ _ _ _ _ (hg _ hE) (Hgr) ((by omega)) ((by omega))).mono ?_; rintro e w' ⟨rfl, hE'⟩; replace hE := hE.trans hE'; clear hE'))
        go_roundw
        case rel => exact ⟨k + 1, by omega, by go_num, by rw [Hb.out], hE⟩
        case measure => (simp [intOf]; omega)

--%call l3Shift 91 ext l3Shift_any _ _ _ _ _ ({0}) ({1}) ({2}) ({3})
theorem l3Shift_any (v : Value) (l : List Int) (a x : Nat) (w : World) (h : Ints w v l) (Hgr : Hid (isGrp l = true)) (ha : a < 2 ^ 24) (hx : x < 24) :
    Calls Try.prog 91 #[.agg #[v], .int .i64 a, .int .i64 x] w fun e w' => e = .returned (.int .i64 (shiftF l a x)) ∧ Ext w w' := by
  obtain ⟨wb, hwb⟩ : ∃ wb, wb = w.alloc (.cells #[v] 26) := ⟨_, rfl⟩
  have hE0 := (Ext.refl w).alloc (.cells #[v] 26)
  have hb := box_cell w v 26
  rw [← hwb] at hE0 hb
  have hg : ∀ W, Ext wb W → Ints W v l := fun W hW => h.ext (hE0.trans hW)
  have Hwb := Lib.hid hwb
  clear hwb h
  go_enter Try.func91, Try.ntmps91
  go_wp2_with fail
  rw [← Hwb.out]
  go_wp2_with (first | (go_at_call 137; refine (l3List_any _ (ha) _).mono ?_; rintro e w1 ⟨v1, rfl, hL, hE1⟩; obtain ⟨aoL, cL, adrL, rfl, hadrL, hcellL⟩ := hL.ints.nats; have hixL := ints_index (c := cL) elI szI hadrL; clear hadrL))
  have hb1 : ∀ W, Ext w1 W → W.cell? ⟨w.heap.size, 0, none⟩ = some v := fun W hW => hb W (hE1.trans hW)
  have hg1 : ∀ W, Ext w1 W → Ints W v l := fun W hW => hg W (hE1.trans hW)
  have hE := Ext.refl w1
  clear hb hg hL
  have hall : ∀ y ∈ elems a, y < 24 := fun y hy => elems_lt hy
  have hlen := elems_len a
  have Hd := Lib.hid (shiftL_all l a x)
  generalize elems a = L at hcellL hixL hall hlen Hd ⊢
  go_loopw [7, 9] (fun ov i wr => ∃ k : Nat, k ≤ L.length ∧ i = .int .i64 k ∧ ov = .int .i64 ((shiftL l (L.take k) x : Nat) : Int) ∧ Ext w1 wr) (fun _ i _ => L.length - (intOf i).toNat)
  case atStart => exact ⟨0, by omega, rfl, by simp [shiftL, bset], hE⟩
  case round =>
    clear hE
    obtain ⟨k, hk, rfl, rfl, hE⟩ := hrel
    by_cases hlt : k < L.length
    · have hck := fun U => hcellL k _ hlt (lat_ext w1 U)
      have hbx := fun U => hb1 _ (lat_ext w1 U)
      have hby := hall _ (nthN_mem hlt)
      have Ht := Lib.hid (shiftL_snoc l (L.take k) (nthN L k) x)
      have Ht2 := Lib.hid (take_nthN L k hlt)
      have hz := addF_bd Hgr.out x (nthN L k)
      have hcm := Lib.hid (addF_comm l (nthN L k) x)
      have hs1 := ishl_one (n := addF l (nthN L k) x) (by rw [hcm.out]; omega)
      have hs2 := ior_pw (shiftL_bd Hgr.out (L.take k) x) (show addF l (nthN L k) x < 24 by rw [hcm.out]; omega)
      go_wp2_with fail
      (refine wp_region_lat (w1) (by kernel_rfl) (by kernel_rfl) hE ?_); (repeat (go_big_quiet_step (first | (go_at_call 138; exact Calls.lat (l2Add_any _ _ _ _ _ (hg1 _ (lat_ext w1 _)) (Hgr) ((by omega)) ((by omega))))))); (refine wpQuiet_nil ?_); (intro W hE'); (replace hE := lat_of hE'); (clear hE')
      go_wp2_with fail
      go_roundw
      case rel => exact ⟨k + 1, by omega, by go_num, by rw [Ht2.out, Ht.out, hcm.out], hE⟩
      case measure => (simp [intOf]; omega)
    · have hkl : k = L.length := by omega
      subst hkl
      go_wp2_with fail
      go_ret
      exact ⟨ret_int (by rw [List.take_length, Hd.out]), hE0.trans (hE1.trans hE)⟩
end Go.Zz

/- Sums of sets, and the full set. -/
namespace Go.Zz
open Go.RowKit Go.Proofs
set_option maxHeartbeats 400000

--%call sum 72 ext sum_any _ _ _ _ _ ({0}) ({1}) ({2}) ({3})
theorem sum_any (v : Value) (l : List Int) (a b : Nat) (w : World) (h : Ints w v l) (Hgr : Hid (isGrp l = true)) (ha : a < 2 ^ 24) (hb' : b < 2 ^ 24) :
    Calls Try.prog 72 #[.agg #[v], .int .i64 a, .int .i64 b] w fun e w' => e = .returned (.int .i64 (sumF l a b)) ∧ Ext w w' := by
  obtain ⟨wb, hwb⟩ : ∃ wb, wb = w.alloc (.cells #[v] 26) := ⟨_, rfl⟩
  have hE0 := (Ext.refl w).alloc (.cells #[v] 26)
  have hb := box_cell w v 26
  rw [← hwb] at hE0 hb
  have hg : ∀ W, Ext wb W → Ints W v l := fun W hW => h.ext (hE0.trans hW)
  have Hwb := Lib.hid hwb
  clear hwb h
  go_enter Try.func72, Try.ntmps72
  go_wp2_with fail
  rw [← Hwb.out]
  go_wp2_with (first | (go_at_call 139; refine (members_any _ (ha) _).mono ?_; rintro e w1 ⟨v1, rfl, hL, hE1⟩; obtain ⟨aoL, cL, adrL, rfl, hadrL, hcellL⟩ := hL.ints.nats; have hixL := ints_index (c := cL) elI szI hadrL; clear hadrL))
  have hb1 : ∀ W, Ext w1 W → W.cell? ⟨w.heap.size, 0, none⟩ = some v := fun W hW => hb W (hE1.trans hW)
  have hg1 : ∀ W, Ext w1 W → Ints W v l := fun W hW => hg W (hE1.trans hW)
  have hE := Ext.refl w1
  clear hb hg hL
  have hall : ∀ y ∈ elems a, y < 24 := fun y hy => elems_lt hy
  have hlen := elems_len a
  have Hd := Lib.hid (sumTo_all l a b)
  generalize elems a = L at hcellL hixL hall hlen Hd ⊢
  go_loopw [7, 13] (fun ov i wr => ∃ k : Nat, k ≤ L.length ∧ i = .int .i64 k ∧ ov = .int .i64 ((sumTo l (L.take k) b : Nat) : Int) ∧ Ext w1 wr) (fun _ i _ => L.length - (intOf i).toNat)
  case atStart => exact ⟨0, by omega, rfl, by simp [sumTo, bset], hE⟩
  case round =>
    clear hE
    obtain ⟨k, hk, rfl, rfl, hE⟩ := hrel
    by_cases hlt : k < L.length
    · have hck := hcellL k _ hlt hE
      have hbx := hb1 _ hE
      have hby := hall _ (nthN_mem hlt)
      have Ht := Lib.hid (sumTo_snoc l (L.take k) (nthN L k) b)
      have Ht2 := Lib.hid (take_nthN L k hlt)
      have hs := sumTo_bd Hgr.out (L.take k) b
      have hf := shiftF_bd Hgr.out b (nthN L k)
      have hs2 := ior_nat (show sumTo l (L.take k) b < 2 ^ 63 by omega) (show shiftF l b (nthN L k) < 2 ^ 63 by omega)
      go_wp2_with (first | (go_at_call 87; refine (shift_any _ _ _ _ _ (hg1 _ hE) (Hgr) (hb') (hby)).mono ?_; rintro e w' ⟨rfl, hE'⟩; replace hE := hE.trans hE'; clear hE'))
      go_roundw
      case rel => exact ⟨k + 1, by omega, by go_num, by rw [Ht2.out, Ht.out], hE⟩
      case measure => (simp [intOf]; omega)
    · have hkl : k = L.length := by omega
      subst hkl
      go_wp2_with fail
      go_ret
      exact ⟨ret_int (by rw [List.take_length, Hd.out]), hE0.trans (hE1.trans hE)⟩

--%call l4Sum 74 ext l4Sum_any _ _ _ _ _ ({0}) ({1}) ({2}) ({3})
theorem l4Sum_any (v : Value) (l : List Int) (a b : Nat) (w : World) (h : Ints w v l) (Hgr : Hid (isGrp l = true)) (ha : a < 2 ^ 24) (hb' : b < 2 ^ 24) :
    Calls Try.prog 74 #[.agg #[v], .int .i64 a, .int .i64 b] w fun e w' => e = .returned (.int .i64 (sumF l a b)) ∧ Ext w w' := by
  obtain ⟨wb, hwb⟩ : ∃ wb, wb = w.alloc (.cells #[v] 26) := ⟨_, rfl⟩
  have hE0 := (Ext.refl w).alloc (.cells #[v] 26)
  have hb := box_cell w v 26
  rw [← hwb] at hE0 hb
  have hg : ∀ W, Ext wb W → Ints W v l := fun W hW => h.ext (hE0.trans hW)
  have Hwb := Lib.hid hwb
  clear hwb h
  go_enter Try.func74, Try.ntmps74
  go_wp2_with fail
  rw [← Hwb.out]
  go_wp2_with (first | (go_at_call 137; refine (l3List_any _ (hb') _).mono ?_; rintro e w1 ⟨v1, rfl, hL, hE1⟩; obtain ⟨aoL, cL, adrL, rfl, hadrL, hcellL⟩ := hL.ints.nats; have hixL := ints_index (c := cL) elI szI hadrL; clear hadrL))
  have hb1 : ∀ W, Ext w1 W → W.cell? ⟨w.heap.size, 0, none⟩ = some v := fun W hW => hb W (hE1.trans hW)
  have hg1 : ∀ W, Ext w1 W → Ints W v l := fun W hW => hg W (hE1.trans hW)
  have hE := Ext.refl w1
  clear hb hg hL
  have hall : ∀ y ∈ elems b, y < 24 := fun y hy => elems_lt hy
  have hlen := elems_len b
  have Hd : Hid (sumTo l (elems b) a = sumF l a b) := Lib.hid (by rw [sumTo_all, sumF_comm])
  generalize elems b = L at hcellL hixL hall hlen Hd ⊢
  go_loopw [7, 9] (fun ov i wr => ∃ k : Nat, k ≤ L.length ∧ i = .int .i64 k ∧ ov = .int .i64 ((sumTo l (L.take k) a : Nat) : Int) ∧ Ext w1 wr) (fun _ i _ => L.length - (intOf i).toNat)
  case atStart => exact ⟨0, by omega, rfl, by simp [sumTo, bset], hE⟩
  case round =>
    clear hE
    obtain ⟨k, hk, rfl, rfl, hE⟩ := hrel
    by_cases hlt : k < L.length
    · have hck := fun U => hcellL k _ hlt (lat_ext w1 U)
      have hbx := fun U => hb1 _ (lat_ext w1 U)
      have hby := hall _ (nthN_mem hlt)
      have Ht := Lib.hid (sumTo_snoc l (L.take k) (nthN L k) a)
      have Ht2 := Lib.hid (take_nthN L k hlt)
      have hs := sumTo_bd Hgr.out (L.take k) a
      have hf := shiftF_bd Hgr.out a (nthN L k)
      have hs2 := ior_nat (show sumTo l (L.take k) a < 2 ^ 63 by omega) (show shiftF l a (nthN L k) < 2 ^ 63 by omega)
      go_wp2_with fail
      (refine wp_region_lat (w1) (by kernel_rfl) (by kernel_rfl) hE ?_); (repeat (go_big_quiet_step (first | (go_at_call 91; exact Calls.lat (l3Shift_any _ _ _ _ _ (hg1 _ (lat_ext w1 _)) (Hgr) (ha) (hby)))))); (refine wpQuiet_nil ?_); (intro W hE'); (replace hE := lat_of hE'); (clear hE')
      go_wp2_with fail
      go_roundw
      case rel => exact ⟨k + 1, by omega, by go_num, by rw [Ht2.out, Ht.out], hE⟩
      case measure => (simp [intOf]; omega)
    · have hkl : k = L.length := by omega
      subst hkl
      go_wp2_with fail
      go_ret
      exact ⟨ret_int (by rw [List.take_length, Hd.out]), hE0.trans (hE1.trans hE)⟩

/-- all of the list are sets, and the group is one -/
theorem areF_no {l xs : List Int} {k : Nat} (hk : k < xs.length) (h : isSetB l (nth xs k) = false) : areF l xs = false := by
  unfold areF
  have : xs.all (isSetB l) = false := by
    cases e : xs.all (isSetB l)
    · rfl
    · rw [List.all_eq_true.1 e _ (nth_mem hk)] at h; cases h
  rw [this]; rfl
theorem areF_end {l xs : List Int} (h : ∀ j, j < xs.length → isSetB l (nth xs j) = true) : areF l xs = isGrp l := by
  unfold areF
  rw [show xs.all (isSetB l) = true from List.all_eq_true.2 fun x hx => by obtain ⟨k, hk, rfl⟩ := mem_nth hx; exact h k hk]; rfl
--%call areSets 88 ext areSets_any _ _ _ _ _ ({0}) ({1})
theorem areSets_any (v u : Value) (l xs : List Int) (w : World) (h : Ints w v l) (k : Ints w u xs) :
    Calls Try.prog 88 #[.agg #[v], u] w fun e w' => e = .returned (.bool (areF l xs)) ∧ Ext w w' := by
  obtain ⟨wb, hwb⟩ : ∃ wb, wb = w.alloc (.cells #[v] 26) := ⟨_, rfl⟩
  have hE0 := (Ext.refl w).alloc (.cells #[v] 26)
  have hb := box_cell w v 26
  rw [← hwb] at hE0 hb
  have hg : ∀ W, Ext wb W → Ints W v l := fun W hW => h.ext (hE0.trans hW)
  obtain ⟨ao, c, adr, rfl, hlen, hadr, hcell⟩ := k.op
  have hix := ints_index (c := c) elI szI hadr
  clear hadr k
  have hE := Ext.refl wb
  have Hwb := Lib.hid hwb
  clear hwb h
  go_enter Try.func88, Try.ntmps88
  go_wp2_with fail
  rw [← Hwb.out]
  go_loopw [9] (fun i wr => ∃ k : Nat, k ≤ xs.length ∧ i = .int .i64 k ∧ (∀ j, j < k → isSetB l (nth xs j) = true) ∧ Ext wb wr) (fun i _ => xs.length - (intOf i).toNat)
  case atStart => exact ⟨0, by omega, rfl, by omega, hE⟩
  case round =>
    clear hE
    obtain ⟨k, hk, rfl, hall, hE⟩ := hrel
    have Hall := Lib.hid hall
    clear hall
    have hbx := hb _ hE
    by_cases hlt : k < xs.length
    · have hck := hcell k _ hlt (hE0.trans hE)
      cases hs : isSetB l (nth xs k)
      · have Hs := Lib.hid (areF_no hlt hs)
        go_wp2_with (first | (go_at_call 66; refine (IsSet_any _ _ _ _ (hg _ hE)).mono ?_; rintro e w' ⟨rfl, hE'⟩; replace hE := hE.trans hE'; clear hE'))
        go_ret
        exact ⟨ret_bool Hs.out.symm, hE0.trans hE⟩
      · have Hs := Lib.hid hs
        go_wp2_with (first | (go_at_call 66; refine (IsSet_any _ _ _ _ (hg _ hE)).mono ?_; rintro e w' ⟨rfl, hE'⟩; replace hE := hE.trans hE'; clear hE'))
        go_roundw
        case rel => exact ⟨k + 1, by omega, by go_num, fun j hj => by by_cases e : j = k; (subst e; exact Hs.out); exact Hall.out j (by omega), hE⟩
        case measure => (simp [intOf]; omega)
    · have hkl : k = xs.length := by omega
      subst hkl
      go_wp2_with (first | (go_at_call 128; refine (IsGroup_any _ _ _ (hg _ hE)).mono ?_; rintro e w' ⟨rfl, hE'⟩; replace hE := hE.trans hE'; clear hE'))
      go_ret
      exact ⟨ret_bool (areF_end Hall.out).symm, hE0.trans hE⟩

/-- all elements, xs a set -/
def fullF (l : List Int) : Int := if isGrp l then ((pw (ord l) - 1 : Nat) : Int) else 0
theorem fullF_t {l : List Int} (h : isGrp l = true) : fullF l = ((pw (ord l) : Nat) : Int) - 1 := by
  unfold fullF; rw [if_pos h]; have := pw_pos (ord l); omega
theorem fullF_f {l : List Int} (h : isGrp l = false) : fullF l = 0 := by unfold fullF; rw [h]; rfl
--%call FullSet 82 ext FullSet_any _ _ _ ({0})
theorem FullSet_any (v : Value) (l : List Int) (w : World) (h : Ints w v l) :
    Calls Try.prog 82 #[.agg #[v]] w fun e w' => e = .returned (.int .i64 (fullF l)) ∧ Ext w w' := by
  have hE0 := (Ext.refl w).alloc (.cells #[v] 26)
  have hE := Ext.refl (w.alloc (.cells #[v] 26))
  have hb := box_cell w v 26
  have hg : ∀ W, Ext (w.alloc (.cells #[v] 26)) W → Ints W v l := fun W hW => h.ext (hE0.trans hW)
  clear h
  cases hs : isGrp l
  · have Hs := Lib.hid (fullF_f hs)
    go_enter Try.func82, Try.ntmps82
    go_wp2_with (first | (go_at_call 128; refine (IsGroup_any _ _ _ (hg _ hE)).mono ?_; rintro e w' ⟨rfl, hE'⟩; replace hE := hE.trans hE'; clear hE'))
    go_ret
    exact ⟨ret_int Hs.out.symm, hE0.trans hE⟩
  · have Hs := Lib.hid (fullF_t hs)
    have ho := ordF_t hs
    have hb1 := ord_bd hs
    have hp1 := pw_pos (ord l)
    have hp2 := pw_le hb1.2
    have hs1 := ishl_one (n := ord l) (by omega)
    go_enter Try.func82, Try.ntmps82
    go_wp2_with (first | (go_at_call 128; refine (IsGroup_any _ _ _ (hg _ hE)).mono ?_; rintro e w' ⟨rfl, hE'⟩; replace hE := hE.trans hE'; clear hE') | (go_at_call 81; refine (OrderOf_any _ _ _ (hg _ hE)).mono ?_; rintro e w' ⟨rfl, hE'⟩; replace hE := hE.trans hE'; clear hE'))
    go_ret
    exact ⟨ret_int Hs.out.symm, hE0.trans hE⟩
end Go.Zz

/- Coverings, small doubling, sizes of intersections. -/
namespace Go.Zz
open Go.RowKit Go.Proofs
set_option maxHeartbeats 400000

theorem ints_two (w : World) (a b : Int) (T : TypeId) : Ints (w.alloc (.cells #[.int .i64 a, .int .i64 b] T)) (.slice (some ⟨w.heap.size, 0, none⟩) 2 2) [a, b] := by
  refine ⟨_, 2, rfl, Nat.le_refl _, by simp, fun i hi => ⟨_, rfl, ?_⟩⟩
  match i, hi with
  | 0, _ => simp [go_sem, nth, Addr.add]
  | 1, _ => simp [go_sem, nth, Addr.add]
theorem areF_two (l : List Int) (a b : Int) : areF l [a, b] = (isSetB l a && isSetB l b) := by
  unfold areF
  cases h : isSetB l a
  · simp [h]
  · simp [h, isSetB_grp h]
--%call areSetsV 88 ext areSets_val _ _ _ _ _ ({0}) ({1}) ({2})
theorem areSets_val (v u : Value) (l xs : List Int) (w : World) (h : Ints w v l) (k : Ints w u xs) {b : Bool} (hb : areF l xs = b) :
    Calls Try.prog 88 #[.agg #[v], u] w fun e w' => e = .returned (.bool b) ∧ Ext w w' := by
  subst hb; exact areSets_any v u l xs w h k
/-- whether the shifts of a by x fill the group -/
def covF (l : List Int) (a x : Int) : Bool := isSetB l a && isSetB l x && decide ((sumF l a.toNat x.toNat : Int) = fullF l)
theorem covF_no {l : List Int} {a x : Int} (h : (isSetB l a && isSetB l x) = false) : covF l a x = false := by unfold covF; rw [h]; rfl
theorem covF_yes {l : List Int} {a x : Nat} (h : (isSetB l a && isSetB l x) = true) : covF l a x = ((sumF l a x : Int) == fullF l) := by
  unfold covF; rw [h, Bool.eq_iff_iff]; simp
set_option maxHeartbeats 4000000 in
--%call IsCovering 38 ext IsCovering_any _ _ _ _ _ ({0})
theorem IsCovering_any (v : Value) (l : List Int) (a x : Int) (w : World) (h : Ints w v l) :
    Calls Try.prog 38 #[.agg #[v], .int .i64 a, .int .i64 x] w fun e w' => e = .returned (.bool (covF l a x)) ∧ Ext w w' := by
  obtain ⟨wb, hwb⟩ : ∃ wb, wb = w.alloc (.cells #[v] 26) := ⟨_, rfl⟩
  have hE0 := (Ext.refl w).alloc (.cells #[v] 26)
  have hb := box_cell w v 26
  rw [← hwb] at hE0 hb
  have hg : ∀ W, Ext wb W → Ints W v l := fun W hW => h.ext (hE0.trans hW)
  have hE := Ext.refl wb
  have Hwb := Lib.hid hwb
  clear hwb h
  have har := areF_two l a x
  cases hs : (isSetB l a && isSetB l x)
  · have Hs := Lib.hid (covF_no hs)
    rw [hs] at har
    clear hs
    go_enter Try.func38, Try.ntmps38
    go_wp2_with fail
    rw [← Hwb.out]
    have hbx := hb wb hE
    have hlt : w.heap.size < wb.heap.size := by rw [Hwb.out]; simp [go_sem]
    first | (go_region_with (go_at_call 88; (with_reducible refine Calls.mono (areSets_val _ _ _ _ _ (hg _ (by repeat (first | assumption | exact Ext.refl _ | (apply And.left; assumption) | apply Ext.drew | apply Ext.alloc))) ((ints_two _ _ _ _).ext (by repeat (first | assumption | exact Ext.refl _ | (apply And.left; assumption) | apply Ext.drew | apply Ext.alloc))) har) ?_); rintro e w1 ⟨rfl, hX⟩; replace hX := Ext.trans (a := wb) (by repeat (first | assumption | exact Ext.refl _ | (apply And.left; assumption) | apply Ext.drew | apply Ext.alloc)) hX)) | (fail "the region")
    all_goals (go_wp2_with fail; go_ret; exact ⟨ret_bool Hs.out.symm, hE0.trans (by repeat (first | assumption | exact Ext.refl _ | (apply And.left; assumption) | apply Ext.drew | apply Ext.alloc))⟩)
  · obtain ⟨ha, hx⟩ := Bool.and_eq_true_iff.1 hs
    obtain ⟨a, rfl, -, ha, hgr⟩ := isSetB_nat ha
    obtain ⟨x, rfl, -, hx, -⟩ := isSetB_nat hx
    have Hs := Lib.hid (covF_yes hs)
    rw [hs] at har
    have Hgr := Lib.hid hgr
    clear hs hgr
    cases hq : ((sumF l a x : Int) == fullF l)
    all_goals
      go_enter Try.func38, Try.ntmps38
      go_wp2_with fail
      rw [← Hwb.out]
      have hD := (Ext.refl (wb)).drew
      first | (go_region_held3 (fun W => Ext (wb) W ∧ W.cell? ⟨w.heap.size, 0, none⟩ = some v) (exact ⟨(by repeat (first | assumption | exact Ext.refl _ | (apply And.left; assumption) | apply Ext.drew | apply Ext.alloc)), hb _ (by repeat (first | assumption | exact Ext.refl _ | (apply And.left; assumption) | apply Ext.drew | apply Ext.alloc))⟩) (first | (go_at_call 88; ((with_reducible refine Calls.mono (areSets_val _ _ _ _ _ (hg _ (by repeat (first | assumption | exact Ext.refl _ | (apply And.left; assumption) | apply Ext.drew | apply Ext.alloc))) ((ints_two _ _ _ _).ext (by repeat (first | assumption | exact Ext.refl _ | (apply And.left; assumption) | apply Ext.drew | apply Ext.alloc))) har) ?_); rintro e wH0 ⟨rfl, hX0⟩; have hH0 := Ext.trans (a := wb) (by repeat (first | assumption | exact Ext.refl _ | (apply And.left; assumption) | apply Ext.drew | apply Ext.alloc)) hX0)) | (go_at_call 72; ((with_reducible refine Calls.mono (sum_any _ _ _ _ _ (hg _ (by repeat (first | assumption | exact Ext.refl _ | (apply And.left; assumption) | apply Ext.drew | apply Ext.alloc))) Hgr ha hx) ?_); rintro e wH1 ⟨rfl, hX1⟩; have hH1 := Ext.trans (a := wb) (by repeat (first | assumption | exact Ext.refl _ | (apply And.left; assumption) | apply Ext.drew | apply Ext.alloc)) hX1)) | (go_at_call 82; ((with_reducible refine Calls.mono (FullSet_any _ _ _ (hg _ (by repeat (first | assumption | exact Ext.refl _ | (apply And.left; assumption) | apply Ext.drew | apply Ext.alloc)))) ?_); rintro e wH2 ⟨rfl, hX2⟩; have hH2 := Ext.trans (a := wb) (by repeat (first | assumption | exact Ext.refl _ | (apply And.left; assumption) | apply Ext.drew | apply Ext.alloc)) hX2)))) | (fail "the region with calls")
      all_goals (go_wp2_with fail; go_ret; exact ⟨ret_bool (by rw [Hs.out, hq]), hE0.trans (by repeat (first | assumption | exact Ext.refl _ | (apply And.left; assumption) | apply Ext.drew | apply Ext.alloc))⟩)
end Go.Zz
