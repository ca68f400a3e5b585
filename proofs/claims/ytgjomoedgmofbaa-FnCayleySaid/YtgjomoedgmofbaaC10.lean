/- Elements and sets: members, add, shift, sum. -/
import Derived.Test.YtgjomoedgmofbaaC2
import Derived.Test.YtgjomoedgmofbaaC3
namespace Go.Zz
open Go.RowKit Go.Proofs
set_option maxHeartbeats 400000

--%call members 173 list members_any _ ({0}) _
theorem members_any (a : Nat) (ha : a < 2 ^ 24) (w : World) :
    Calls Try.prog 173 #[.int .i64 a] w fun e w' => ∃ v, e = .returned v ∧ Own 3 w w' v (castL (elems a)) ∧ Ext w w' := by
  have hO0 := own_made (TI := 3) (n := 0) (by omega) (Ext.refl w) [] rfl
  have hE0 := (Ext.refl w).alloc (.cells #[] 3)
  go_enter Try.func173, Try.ntmps173
  go_wp2_with fail
  go_loopw [3, 4] (fun v x wr => ∃ k : Nat, k ≤ 24 ∧ x = .int .i64 k ∧ Own 3 w wr v (castL (elemsTo a k)) ∧ Ext w wr) (fun _ x _ => 24 - (intOf x).toNat)
  case atStart => exact ⟨0, by omega, rfl, hO0, hE0⟩
  case round =>
    obtain ⟨k, hk, rfl, hO, hE⟩ := hrel
    have hsh := ishr_nat (a := a) (n := k) (by omega)
    by_cases h0 : shr a k = 0
    · have he := Lib.hid (elemsTo_all hk (shr_zero.1 h0))
      have h0' : ((shr a k : Nat) : Int) = 0 := by rw [h0]; rfl
      clear h0
      go_wp2_with fail
      go_ret
      exact ⟨_, rfl, by rw [← he.out]; exact hO, hE⟩
    · have hlt := shr_pos h0 ha
      have hne := ne_zero_t h0
      have hbt := bit_test' (a := a) (n := k) (by omega) (by omega)
      have hs := Lib.hid (elemsTo_succ a k)
      have hln : (castL (elemsTo a k)).length ≤ 24 := by rw [castL_len]; have := elemsTo_len a k; omega
      clear h0
      cases hb : a.testBit k
      · rw [hb] at hbt
        have Hb := Lib.hid hb
        clear hb
        go_wp2_with fail
        go_roundw
        case rel => exact ⟨k + 1, by omega, by go_num, by rw [hs.out, Hb.out]; simpa using hO, hE⟩
        case measure => (simp [intOf]; omega)
      · rw [hb] at hbt
        have Hb := Lib.hid hb
        clear hb
        go_wp2_with (at_builtin; refine wp_append1 slI rfl _ _ rfl w _ _ _ _ hO hE (by omega) rfl rfl ?_; intro v1 w1 hO1 hE1)
        go_roundw
        case rel => exact ⟨k + 1, by omega, by go_num, by rw [hs.out, Hb.out]; simpa [castL_snoc] using hO1, hE1⟩
        case measure => (simp [intOf]; omega)

--%call l3List 174 list l3List_any _ ({0}) _
theorem l3List_any (a : Nat) (ha : a < 2 ^ 24) (w : World) :
    Calls Try.prog 174 #[.int .i64 a] w fun e w' => ∃ v, e = .returned v ∧ Own 3 w w' v (castL (elems a)) ∧ Ext w w' := by
  have hO0 := own_made (TI := 3) (n := 0) (by omega) (Ext.refl w) [] rfl
  have hE0 := (Ext.refl w).alloc (.cells #[] 3)
  go_enter Try.func174, Try.ntmps174
  go_wp2_with fail
  go_loopw [3, 4, 5] (fun v i x wr => ∃ k : Nat, k ≤ 24 ∧ i = .int .i64 k ∧ x = .int .i64 ((shr a k : Nat) : Int) ∧ Own 3 w wr v (castL (elemsTo a k)) ∧ Ext w wr) (fun _ i _ _ => 24 - (intOf i).toNat)
  case atStart => exact ⟨0, by omega, rfl, rfl, hO0, hE0⟩
  case round =>
    obtain ⟨k, hk, rfl, rfl, hO, hE⟩ := hrel
    by_cases h0 : shr a k = 0
    · have he := Lib.hid (elemsTo_all hk (shr_zero.1 h0))
      have h0' : ((shr a k : Nat) : Int) = 0 := by rw [h0]; rfl
      clear h0
      go_wp2_with fail
      go_ret
      exact ⟨_, rfl, by rw [← he.out]; exact hO, hE⟩
    · have hlt := shr_pos h0 ha
      have hpos : 0 < ((shr a k : Nat) : Int) := by omega
      have hbt := bit_test' (a := a) (n := k) (by omega) (by omega)
      have hsh : ishr ((shr a k : Nat) : Int) 1 = ((shr a (k + 1) : Nat) : Int) := by rw [← shr_shr]; exact ishr_nat (n := 1) (by omega)
      have hs := Lib.hid (elemsTo_succ a k)
      have hln : (castL (elemsTo a k)).length ≤ 24 := by rw [castL_len]; have := elemsTo_len a k; omega
      clear h0
      cases hb : a.testBit k
      · rw [hb] at hbt
        have Hb := Lib.hid hb
        clear hb
        go_wp2_with fail
        go_roundw
        case rel => exact ⟨k + 1, by omega, by go_num, rfl, by rw [hs.out, Hb.out]; simpa using hO, hE⟩
        case measure => (simp [intOf]; omega)
      · rw [hb] at hbt
        have Hb := Lib.hid hb
        clear hb
        go_wp2_with (at_builtin; refine wp_append1 slI rfl _ _ rfl w _ _ _ _ hO hE (by omega) rfl rfl ?_; intro v1 w1 hO1 hE1)
        go_roundw
        case rel => exact ⟨k + 1, by omega, by go_num, rfl, by rw [hs.out, Hb.out]; simpa [castL_snoc] using hO1, hE1⟩
        case measure => (simp [intOf]; omega)
end Go.Zz
