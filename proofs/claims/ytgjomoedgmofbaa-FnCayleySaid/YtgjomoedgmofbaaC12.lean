/- The reference's sum of elements, and shifted sets. -/
import Derived.Test.YtgjomoedgmofbaaC11
namespace Go.Zz
open Go.RowKit Go.Proofs
set_option maxHeartbeats 400000

--%call l2Add 166 ext l2Add_any _ _ _ _ _ ({0}) ({1}) ({2}) ({3})
theorem l2Add_any (v : Value) (l : List Int) (x y : Nat) (w : World) (h : Ints w v l) (Hgr : Hid (isGrp l = true)) (hx : x < 16777216) (hy : y < 16777216) :
    Calls Try.prog 166 #[.agg #[v], .int .i64 x, .int .i64 y] w fun e w' => e = .returned (.int .i64 (addF l x y)) ∧ Ext w w' := by
  obtain ⟨ao, c, adr, rfl, hlen, hadr, hcell⟩ := h.op
  have hix := ints_index (c := c) elI szI hadr
  clear hadr h
  obtain ⟨wb, hwb⟩ : ∃ wb, wb = w.alloc (.cells #[.slice ao l.length c] 26) := ⟨_, rfl⟩
  have hE0 := (Ext.refl w).alloc (.cells #[.slice ao l.length c] 26)
  have hb := box_cell w (.slice ao l.length c) 26
  rw [← hwb] at hE0 hb
  have hE := Ext.refl wb
  have Hwb := Lib.hid hwb
  have hA := addF_bd Hgr.out x y
  have h3 := isGrp_len Hgr.out
  clear hwb
  go_enter Try.func166, Try.ntmps166
  go_wp2_with fail
  rw [← Hwb.out]
  go_loopw [1, 2, 7, 8, 9] (fun xv yv sv uv i wr => ∃ k x' y' s u : Nat, k ≤ l.length ∧ x' ≤ x ∧ y' ≤ y ∧ s + u * addF (l.drop k) x' y' = addF l x y ∧ (u : Int) = prodL (l.take k) ∧ xv = .int .i64 x' ∧ yv = .int .i64 y' ∧ sv = .int .i64 s ∧ uv = .int .i64 u ∧ i = .int .i64 k ∧ Ext wb wr) (fun _ _ _ _ i _ => l.length - (intOf i).toNat)
  case atStart => exact ⟨0, x, y, 0, 1, by omega, by omega, by omega, by simp, by simp [prodL], rfl, rfl, rfl, rfl, rfl, hE⟩
  case round =>
    clear hE
    obtain ⟨k, x', y', s, u, hk, hx', hy', hs, hu, rfl, rfl, rfl, rfl, rfl, hE⟩ := hrel
    have hsb := add_inv hs hA
    have hbx := hb wr hE
    obtain ⟨hu1, hu2⟩ := prodL_bd3 k l hk (by omega) (fun j hj => isGrp_nth Hgr.out (by omega))
    rw [← hu] at hu1 hu2
    have Hs := Lib.hid hs
    have Hu := Lib.hid hu
    clear hs hu hA
    by_cases hlt : k < l.length
    · have hck := hcell k _ hlt (hE0.trans hE)
      obtain ⟨hq1, hq2⟩ := isGrp_nth Hgr.out hlt
      obtain ⟨q, hq⟩ := Int.eq_ofNat_of_zero_le (show 0 ≤ nth l k by omega)
      have Hst := Lib.hid (addF_step hlt hq x' y')
      have hu' : nth l k * prodL (l.take k) = prodL (l.take (k + 1)) := by rw [prodL_take l k hlt, Int.mul_comm]
      have Hu2 := Lib.hid hu'
      rw [hq] at hq1 hq2
      have Hq := Lib.hid hq
      have hd : (x' % q + y' % q) % q < 24 := Nat.lt_of_lt_of_le (Nat.mod_lt _ (by omega)) (by omega)
      have hm1 : ((x' % q + y' % q) % q) * u ≤ 24 * 13824 := Nat.mul_le_mul (by omega) (by omega)
      have hm2 : u * q ≤ 13824 * 24 := Nat.mul_le_mul (by omega) (by omega)
      have c1 : ((x' % q + y' % q : Nat) : Int) = (x' : Int) % (q : Int) + (y' : Int) % (q : Int) := by simp
      have c2 : ((((x' % q + y' % q) % q) * u : Nat) : Int) = ((x' : Int) % (q : Int) + (y' : Int) % (q : Int)) % (q : Int) * (u : Int) := by rw [Int.natCast_mul, Int.natCast_emod, c1]
      have c3 : ((u * q : Nat) : Int) = (u : Int) * (q : Int) := Int.natCast_mul _ _
      have b1 : (x' : Int) % (q : Int) < 24 := by have := Int.emod_lt_of_pos (x' : Int) (show (0:Int) < q by omega); omega
      have b2 : (y' : Int) % (q : Int) < 24 := by have := Int.emod_lt_of_pos (y' : Int) (show (0:Int) < q by omega); omega
      have b3 : 0 ≤ (x' : Int) % (q : Int) := Int.emod_nonneg _ (by omega)
      have b4 : 0 ≤ (y' : Int) % (q : Int) := Int.emod_nonneg _ (by omega)
      have b5 : ((x' : Int) % (q : Int) + (y' : Int) % (q : Int)) % (q : Int) * (u : Int) ≤ 331776 := by rw [← c2]; omega
      have b6 : 0 ≤ ((x' : Int) % (q : Int) + (y' : Int) % (q : Int)) % (q : Int) * (u : Int) := by rw [← c2]; omega
      have b7 : (u : Int) * (q : Int) ≤ 331776 := by rw [← c3]; omega
      have b8 : 0 ≤ (u : Int) * (q : Int) := by rw [← c3]; omega
      have C2 := Lib.hid c2
      have C3 := Lib.hid c3
      clear c1 c2 c3 hd hm1 hm2 hu'
      go_wp2_with fail
      (refine wp_region_lat (wb) (by kernel_rfl) (by kernel_rfl) hE ?_); (repeat (go_big_quiet_step (first | fail))); (refine wpQuiet_nil ?_); (intro W hE'); (replace hE := lat_of hE'); (clear hE')
      go_wp2_with fail
      go_roundw
      case rel =>
        refine ⟨k + 1, x' / q, y' / q, s + ((x' % q + y' % q) % q) * u, u * q, by omega, Nat.le_trans (Nat.div_le_self _ _) hx', Nat.le_trans (Nat.div_le_self _ _) hy', ?_, ?_, ?_, ?_, ?_, ?_, by go_num, hE⟩
        · apply add_next
          rw [← Hst.out]; exact Hs.out
        · rw [← Hu2.out, ← Hu.out, Hq.out]; push_cast; rw [Int.mul_comm]
        · exact div_val (Nat.le_trans hx' (Nat.le_of_lt hx))
        · exact div_val (Nat.le_trans hy' (Nat.le_of_lt hy))
        · exact step_val hsb b6 b5
        · exact mul_val u q
      case measure => (simp [intOf]; omega)
    · have hkl : k = l.length := by omega
      subst hkl
      go_wp2_with fail
      go_ret
      exact ⟨ret_int (by have := Hs.out; rw [List.drop_length] at this; simp [addF] at this; omega), hE0.trans hE⟩
end Go.Zz
