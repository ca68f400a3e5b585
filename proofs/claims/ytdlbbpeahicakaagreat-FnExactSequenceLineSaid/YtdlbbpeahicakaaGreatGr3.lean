/- Elements and sets: members, add, shift, sum. -/
import Derived.Test.YtdlbbpeahicakaaGreatGr2
namespace Go.Zz
open Go.RowKit Go.Proofs
set_option maxHeartbeats 400000

--%call members 153 list members_any _ ({0}) _
theorem members_any (a : Nat) (ha : a < 2 ^ 24) (w : World) :
    Calls Tryz.prog 153 #[.int .i64 a] w fun e w' => ∃ v, e = .returned v ∧ Own 3 w w' v (castL (elems a)) ∧ Ext w w' := by
  have hO0 := own_made (TI := 3) (n := 0) (by omega) (Ext.refl w) [] rfl
  have hE0 := (Ext.refl w).alloc (.cells #[] 3)
  go_enter Tryz.func153, Tryz.ntmps153
  go_wp2_with fail
  go_loopw [3, 4] (fun v x wr => ∃ k : Nat, k ≤ 24 ∧ x = .int .i64 k ∧ Own 3 w wr v (castL (elemsTo a k)) ∧ Ext w wr) (fun _ x _ => 24 - (intOf x).toNat)
  case atStart => exact ⟨0, by omega, rfl, hO0, hE0⟩
  case round =>
    obtain ⟨k, hk, rfl, hO, hE⟩ := hrel
    have hsh := ishr_nat (a := a) (n := k) (by omega)
    by_cases h0 : shr a k = 0
    · have he := Lib.hid (elemsTo_all hk (shr_zero.1 h0))
      have h0' : ((shr a k : Nat) : Int) = 0 := by rw [h0]; rfl
      clear h0
      go_wp2_with fail
      go_ret
      exact ⟨_, rfl, by rw [← he.out]; exact hO, hE⟩
    · have hlt := shr_pos h0 ha
      have hne := ne_zero_t h0
      have hbt := bit_test' (a := a) (n := k) (by omega) (by omega)
      have hs := Lib.hid (elemsTo_succ a k)
      have hln : (castL (elemsTo a k)).length ≤ 24 := by rw [castL_len]; have := elemsTo_len a k; omega
      clear h0
      cases hb : a.testBit k
      · rw [hb] at hbt
        have Hb := Lib.hid hb
        clear hb
        go_wp2_with fail
        go_roundw
        case rel => exact ⟨k + 1, by omega, by go_num, by rw [hs.out, Hb.out]; simpa using hO, hE⟩
        case measure => (simp [intOf]; omega)
      · rw [hb] at hbt
        have Hb := Lib.hid hb
        clear hb
        go_wp2_with (at_builtin; refine wp_append1 slI rfl _ _ rfl w _ _ _ _ hO hE (by omega) rfl rfl ?_; intro v1 w1 hO1 hE1)
        go_roundw
        case rel => exact ⟨k + 1, by omega, by go_num, by rw [hs.out, Hb.out]; simpa [castL_snoc] using hO1, hE1⟩
        case measure => (simp [intOf]; omega)

--%call l3List 108 list l3List_any _ ({0}) _
theorem l3List_any (a : Nat) (ha : a < 2 ^ 24) (w : World) :
    Calls Tryz.prog 108 #[.int .i64 a] w fun e w' => ∃ v, e = .returned v ∧ Own 3 w w' v (castL (elems a)) ∧ Ext w w' := by
  have hO0 := own_made (TI := 3) (n := 0) (by omega) (Ext.refl w) [] rfl
  have hE0 := (Ext.refl w).alloc (.cells #[] 3)
  go_enter Tryz.func108, Tryz.ntmps108
  go_wp2_with fail
  go_loopw [3, 4, 5] (fun v i x wr => ∃ k : Nat, k ≤ 24 ∧ i = .int .i64 k ∧ x = .int .i64 ((shr a k : Nat) : Int) ∧ Own 3 w wr v (castL (elemsTo a k)) ∧ Ext w wr) (fun _ i _ _ => 24 - (intOf i).toNat)
  case atStart => exact ⟨0, by omega, rfl, rfl, hO0, hE0⟩
  case round =>
    obtain ⟨k, hk, rfl, rfl, hO, hE⟩ := hrel
    by_cases h0 : shr a k = 0
    · have he := Lib.hid (elemsTo_all hk (shr_zero.1 h0))
      have h0' : ((shr a k : Nat) : Int) = 0 := by rw [h0]; rfl
      clear h0
      go_wp2_with fail
      go_ret
      exact ⟨_, rfl, by rw [← he.out]; exact hO, hE⟩
    · have hlt := shr_pos h0 ha
      have hpos : 0 < ((shr a k : Nat) : Int) := by omega
      have hbt := bit_test' (a := a) (n := k) (by omega) (by omega)
      have hsh : ishr ((shr a k : Nat) : Int) 1 = ((shr a (k + 1) : Nat) : Int) := by rw [← shr_shr]; exact ishr_nat (n := 1) (by omega)
      have hs := Lib.hid (elemsTo_succ a k)
      have hln : (castL (elemsTo a k)).length ≤ 24 := by rw [castL_len]; have := elemsTo_len a k; omega
      clear h0
      cases hb : a.testBit k
      · rw [hb] at hbt
        have Hb := Lib.hid hb
        clear hb
        go_wp2_with fail
        go_roundw
        case rel => exact ⟨k + 1, by omega, by go_num, rfl, by rw [hs.out, Hb.out]; simpa using hO, hE⟩
        case measure => (simp [intOf]; omega)
      · rw [hb] at hbt
        have Hb := Lib.hid hb
        clear hb
        go_wp2_with (at_builtin; refine wp_append1 slI rfl _ _ rfl w _ _ _ _ hO hE (by omega) rfl rfl ?_; intro v1 w1 hO1 hE1)
        go_roundw
        case rel => exact ⟨k + 1, by omega, by go_num, rfl, by rw [hs.out, Hb.out]; simpa [castL_snoc] using hO1, hE1⟩
        case measure => (simp [intOf]; omega)
end Go.Zz

/- Elements and sets: add, shift, sum, areSets, FullSet. -/
namespace Go.Zz
open Go.RowKit Go.Proofs
set_option maxHeartbeats 400000

/-- while the places are added: what is left is below -/
theorem add_inv {s u t A : Nat} (h : s + u * t = A) (hA : A < 24) : s < 24 := by omega
theorem wrapN (n : Nat) (h : n ≤ 9223372036854775807) : wrap64 (n : Int) = (n : Int) := IntWalk.wrap64_in _ (by omega)
theorem div_val {x q : Nat} (hx : x ≤ 16777216) : Value.int .i64 (wrap64 ((x : Int) / (q : Int))) = .int .i64 ((x / q : Nat) : Int) := by
  have h := Nat.div_le_self x q
  rw [show ((x : Int) / (q : Int)) = ((x / q : Nat) : Int) from (Int.natCast_ediv x q).symm]
  generalize x / q = d at h ⊢
  rw [wrapN d (by omega)]
theorem mul_val (u q : Nat) : Value.int .i64 ((u : Int) * (q : Int)) = .int .i64 ((u * q : Nat) : Int) := by rw [Int.natCast_mul]
theorem step_val {x y q s u : Nat} (hs : s < 24) (h0 : 0 ≤ ((x : Int) % (q : Int) + (y : Int) % (q : Int)) % (q : Int) * (u : Int)) (h1 : ((x : Int) % (q : Int) + (y : Int) % (q : Int)) % (q : Int) * (u : Int) ≤ 331776) :
    Value.int .i64 (wrap64 ((s : Int) + wrap64 (((x : Int) + (y : Int)) % (q : Int) * (u : Int)))) = .int .i64 ((s + ((x % q + y % q) % q) * u : Nat) : Int) := by
  have c2 : ((((x % q + y % q) % q) * u : Nat) : Int) = ((x : Int) % (q : Int) + (y : Int) % (q : Int)) % (q : Int) * (u : Int) := by
    rw [Int.natCast_mul, Int.natCast_emod, Int.natCast_add, Int.natCast_emod, Int.natCast_emod]
  rw [← c2] at h0 h1
  rw [show ((x : Int) + (y : Int)) % (q : Int) * (u : Int) = ((((x % q + y % q) % q) * u : Nat) : Int) from by rw [c2, Int.add_emod]]
  generalize ((x % q + y % q) % q) * u = d at h0 h1 ⊢
  rw [wrapN d (by omega), ← Int.natCast_add, wrapN (s + d) (by omega)]
theorem add_next {s u d q t A : Nat} (h : s + u * (d + q * t) = A) : (s + d * u) + (u * q) * t = A := by
  rw [Nat.mul_add, ← Nat.mul_assoc, Nat.mul_comm u d] at h; omega
--%call add 194 ext add_any _ _ _ _ _ ({0}) ({1}) ({2}) ({3})
theorem add_any (v : Value) (l : List Int) (x y : Nat) (w : World) (h : Ints w v l) (Hgr : Hid (isGrp l = true)) (hx : x < 16777216) (hy : y < 16777216) :
    Calls Tryz.prog 194 #[.agg #[v], .int .i64 x, .int .i64 y] w fun e w' => e = .returned (.int .i64 (addF l x y)) ∧ Ext w w' := by
  obtain ⟨ao, c, adr, rfl, hlen, hadr, hcell⟩ := h.op
  have hix := ints_index (c := c) elI szI hadr
  clear hadr h
  obtain ⟨wb, hwb⟩ : ∃ wb, wb = w.alloc (.cells #[.slice ao l.length c] 27) := ⟨_, rfl⟩
  have hE0 := (Ext.refl w).alloc (.cells #[.slice ao l.length c] 27)
  rw [← hwb] at hE0
  have hE := Ext.refl wb
  have Hwb := Lib.hid hwb
  have hA := addF_bd Hgr.out x y
  have h3 := isGrp_len Hgr.out
  clear hwb
  go_enter Tryz.func194, Tryz.ntmps194
  go_wp2_with fail
  rw [← Hwb.out]
  go_loopw [1, 2, 7, 8, 14] (fun xv yv sv uv i wr => ∃ k x' y' s u : Nat, k ≤ l.length ∧ x' ≤ x ∧ y' ≤ y ∧ s + u * addF (l.drop k) x' y' = addF l x y ∧ (u : Int) = prodL (l.take k) ∧ xv = .int .i64 x' ∧ yv = .int .i64 y' ∧ sv = .int .i64 s ∧ uv = .int .i64 u ∧ i = .int .i64 k ∧ Ext wb wr) (fun _ _ _ _ i _ => l.length - (intOf i).toNat)
  case atStart => exact ⟨0, x, y, 0, 1, by omega, by omega, by omega, by simp, by simp [prodL], rfl, rfl, rfl, rfl, rfl, hE⟩
  case round =>
    clear hE
    obtain ⟨k, x', y', s, u, hk, hx', hy', hs, hu, rfl, rfl, rfl, rfl, rfl, hE⟩ := hrel
    have hsb := add_inv hs hA
    obtain ⟨hu1, hu2⟩ := prodL_bd3 k l hk (by omega) (fun j hj => isGrp_nth Hgr.out (by omega))
    rw [← hu] at hu1 hu2
    have Hs := Lib.hid hs
    have Hu := Lib.hid hu
    clear hs hu hA
    by_cases hlt : k < l.length
    · have hck := hcell k _ hlt (hE0.trans hE)
      obtain ⟨hq1, hq2⟩ := isGrp_nth Hgr.out hlt
      obtain ⟨q, hq⟩ := Int.eq_ofNat_of_zero_le (show 0 ≤ nth l k by omega)
      have Hst := Lib.hid (addF_step hlt hq x' y')
      have hu' : nth l k * prodL (l.take k) = prodL (l.take (k + 1)) := by rw [prodL_take l k hlt, Int.mul_comm]
      have Hu2 := Lib.hid hu'
      rw [hq] at hq1 hq2
      have Hq := Lib.hid hq
      have hd : (x' % q + y' % q) % q < 24 := Nat.lt_of_lt_of_le (Nat.mod_lt _ (by omega)) (by omega)
      have hm1 : ((x' % q + y' % q) % q) * u ≤ 24 * 13824 := Nat.mul_le_mul (by omega) (by omega)
      have hm2 : u * q ≤ 13824 * 24 := Nat.mul_le_mul (by omega) (by omega)
      have c1 : ((x' % q + y' % q : Nat) : Int) = (x' : Int) % (q : Int) + (y' : Int) % (q : Int) := by simp
      have c2 : ((((x' % q + y' % q) % q) * u : Nat) : Int) = ((x' : Int) % (q : Int) + (y' : Int) % (q : Int)) % (q : Int) * (u : Int) := by rw [Int.natCast_mul, Int.natCast_emod, c1]
      have c3 : ((u * q : Nat) : Int) = (u : Int) * (q : Int) := Int.natCast_mul _ _
      have b1 : (x' : Int) % (q : Int) < 24 := by have := Int.emod_lt_of_pos (x' : Int) (show (0:Int) < q by omega); omega
      have b2 : (y' : Int) % (q : Int) < 24 := by have := Int.emod_lt_of_pos (y' : Int) (show (0:Int) < q by omega); omega
      have b3 : 0 ≤ (x' : Int) % (q : Int) := Int.emod_nonneg _ (by omega)
      have b4 : 0 ≤ (y' : Int) % (q : Int) := Int.emod_nonneg _ (by omega)
      have b5 : ((x' : Int) % (q : Int) + (y' : Int) % (q : Int)) % (q : Int) * (u : Int) ≤ 331776 := by rw [← c2]; omega
      have b6 : 0 ≤ ((x' : Int) % (q : Int) + (y' : Int) % (q : Int)) % (q : Int) * (u : Int) := by rw [← c2]; omega
      have b7 : (u : Int) * (q : Int) ≤ 331776 := by rw [← c3]; omega
      have b8 : 0 ≤ (u : Int) * (q : Int) := by rw [← c3]; omega
      have C2 := Lib.hid c2
      have C3 := Lib.hid c3
      clear c1 c2 c3 hd hm1 hm2 hu'
      go_wp2_with fail
      (refine wp_region_lat (wb) (by kernel_rfl) (by kernel_rfl) hE ?_); (repeat (go_big_quiet_step (first | fail))); (refine wpQuiet_nil ?_); (intro W hE'); (replace hE := lat_of hE'); (clear hE')
      go_wp2_with fail
      (refine wp_region_lat (wb) (by kernel_rfl) (by kernel_rfl) hE ?_); (repeat (go_big_quiet_step (first | fail))); (refine wpQuiet_nil ?_); (intro W hE'); (replace hE := lat_of hE'); (clear hE')
      go_wp2_with fail
      go_roundw
      case rel =>
        refine ⟨k + 1, x' / q, y' / q, s + ((x' % q + y' % q) % q) * u, u * q, by omega, Nat.le_trans (Nat.div_le_self _ _) hx', Nat.le_trans (Nat.div_le_self _ _) hy', ?_, ?_, ?_, ?_, ?_, ?_, by go_num, hE⟩
        · apply add_next
          rw [← Hst.out]; exact Hs.out
        · rw [← Hu2.out, ← Hu.out, Hq.out]; push_cast; rw [Int.mul_comm]
        · exact div_val (Nat.le_trans hx' (Nat.le_of_lt hx))
        · exact div_val (Nat.le_trans hy' (Nat.le_of_lt hy))
        · exact step_val hsb b6 b5
        · exact mul_val u q
      case measure => (simp [intOf]; omega)
    · have hkl : k = l.length := by omega
      subst hkl
      go_wp2_with fail
      go_ret
      exact ⟨ret_int (by have := Hs.out; rw [List.drop_length] at this; simp [addF] at this; omega), hE0.trans hE⟩
end Go.Zz

/- The reference's sum of elements, and shifted sets. -/
namespace Go.Zz
open Go.RowKit Go.Proofs
set_option maxHeartbeats 400000

--%call l2Add 141 ext l2Add_any _ _ _ _ _ ({0}) ({1}) ({2}) ({3})
theorem l2Add_any (v : Value) (l : List Int) (x y : Nat) (w : World) (h : Ints w v l) (Hgr : Hid (isGrp l = true)) (hx : x < 16777216) (hy : y < 16777216) :
    Calls Tryz.prog 141 #[.agg #[v], .int .i64 x, .int .i64 y] w fun e w' => e = .returned (.int .i64 (addF l x y)) ∧ Ext w w' := by
  obtain ⟨ao, c, adr, rfl, hlen, hadr, hcell⟩ := h.op
  have hix := ints_index (c := c) elI szI hadr
  clear hadr h
  obtain ⟨wb, hwb⟩ : ∃ wb, wb = w.alloc (.cells #[.slice ao l.length c] 27) := ⟨_, rfl⟩
  have hE0 := (Ext.refl w).alloc (.cells #[.slice ao l.length c] 27)
  have hb := box_cell w (.slice ao l.length c) 27
  rw [← hwb] at hE0 hb
  have hE := Ext.refl wb
  have Hwb := Lib.hid hwb
  have hA := addF_bd Hgr.out x y
  have h3 := isGrp_len Hgr.out
  clear hwb
  go_enter Tryz.func141, Tryz.ntmps141
  go_wp2_with fail
  rw [← Hwb.out]
  go_loopw [1, 2, 7, 8, 9] (fun xv yv sv uv i wr => ∃ k x' y' s u : Nat, k ≤ l.length ∧ x' ≤ x ∧ y' ≤ y ∧ s + u * addF (l.drop k) x' y' = addF l x y ∧ (u : Int) = prodL (l.take k) ∧ xv = .int .i64 x' ∧ yv = .int .i64 y' ∧ sv = .int .i64 s ∧ uv = .int .i64 u ∧ i = .int .i64 k ∧ Ext wb wr) (fun _ _ _ _ i _ => l.length - (intOf i).toNat)
  case atStart => exact ⟨0, x, y, 0, 1, by omega, by omega, by omega, by simp, by simp [prodL], rfl, rfl, rfl, rfl, rfl, hE⟩
  case round =>
    clear hE
    obtain ⟨k, x', y', s, u, hk, hx', hy', hs, hu, rfl, rfl, rfl, rfl, rfl, hE⟩ := hrel
    have hsb := add_inv hs hA
    have hbx := hb wr hE
    obtain ⟨hu1, hu2⟩ := prodL_bd3 k l hk (by omega) (fun j hj => isGrp_nth Hgr.out (by omega))
    rw [← hu] at hu1 hu2
    have Hs := Lib.hid hs
    have Hu := Lib.hid hu
    clear hs hu hA
    by_cases hlt : k < l.length
    · have hck := hcell k _ hlt (hE0.trans hE)
      obtain ⟨hq1, hq2⟩ := isGrp_nth Hgr.out hlt
      obtain ⟨q, hq⟩ := Int.eq_ofNat_of_zero_le (show 0 ≤ nth l k by omega)
      have Hst := Lib.hid (addF_step hlt hq x' y')
      have hu' : nth l k * prodL (l.take k) = prodL (l.take (k + 1)) := by rw [prodL_take l k hlt, Int.mul_comm]
      have Hu2 := Lib.hid hu'
      rw [hq] at hq1 hq2
      have Hq := Lib.hid hq
      have hd : (x' % q + y' % q) % q < 24 := Nat.lt_of_lt_of_le (Nat.mod_lt _ (by omega)) (by omega)
      have hm1 : ((x' % q + y' % q) % q) * u ≤ 24 * 13824 := Nat.mul_le_mul (by omega) (by omega)
      have hm2 : u * q ≤ 13824 * 24 := Nat.mul_le_mul (by omega) (by omega)
      have c1 : ((x' % q + y' % q : Nat) : Int) = (x' : Int) % (q : Int) + (y' : Int) % (q : Int) := by simp
      have c2 : ((((x' % q + y' % q) % q) * u : Nat) : Int) = ((x' : Int) % (q : Int) + (y' : Int) % (q : Int)) % (q : Int) * (u : Int) := by rw [Int.natCast_mul, Int.natCast_emod, c1]
      have c3 : ((u * q : Nat) : Int) = (u : Int) * (q : Int) := Int.natCast_mul _ _
      have b1 : (x' : Int) % (q : Int) < 24 := by have := Int.emod_lt_of_pos (x' : Int) (show (0:Int) < q by omega); omega
      have b2 : (y' : Int) % (q : Int) < 24 := by have := Int.emod_lt_of_pos (y' : Int) (show (0:Int) < q by omega); omega
      have b3 : 0 ≤ (x' : Int) % (q : Int) := Int.emod_nonneg _ (by omega)
      have b4 : 0 ≤ (y' : Int) % (q : Int) := Int.emod_nonneg _ (by omega)
      have b5 : ((x' : Int) % (q : Int) + (y' : Int) % (q : Int)) % (q : Int) * (u : Int) ≤ 331776 := by rw [← c2]; omega
      have b6 : 0 ≤ ((x' : Int) % (q : Int) + (y' : Int) % (q : Int)) % (q : Int) * (u : Int) := by rw [← c2]; omega
      have b7 : (u : Int) * (q : Int) ≤ 331776 := by rw [← c3]; omega
      have b8 : 0 ≤ (u : Int) * (q : Int) := by rw [← c3]; omega
      have C2 := Lib.hid c2
      have C3 := Lib.hid c3
      clear c1 c2 c3 hd hm1 hm2 hu'
      go_wp2_with fail
      (refine wp_region_lat (wb) (by kernel_rfl) (by kernel_rfl) hE ?_); (repeat (go_big_quiet_step (first | fail))); (refine wpQuiet_nil ?_); (intro W hE'); (replace hE := lat_of hE'); (clear hE')
      go_wp2_with fail
      go_roundw
      case rel =>
        refine ⟨k + 1, x' / q, y' / q, s + ((x' % q + y' % q) % q) * u, u * q, by omega, Nat.le_trans (Nat.div_le_self _ _) hx', Nat.le_trans (Nat.div_le_self _ _) hy', ?_, ?_, ?_, ?_, ?_, ?_, by go_num, hE⟩
        · apply add_next
          rw [← Hst.out]; exact Hs.out
        · rw [← Hu2.out, ← Hu.out, Hq.out]; push_cast; rw [Int.mul_comm]
        · exact div_val (Nat.le_trans hx' (Nat.le_of_lt hx))
        · exact div_val (Nat.le_trans hy' (Nat.le_of_lt hy))
        · exact step_val hsb b6 b5
        · exact mul_val u q
      case measure => (simp [intOf]; omega)
    · have hkl : k = l.length := by omega
      subst hkl
      go_wp2_with fail
      go_ret
      exact ⟨ret_int (by have := Hs.out; rw [List.drop_length] at this; simp [addF] at this; omega), hE0.trans hE⟩
end Go.Zz

/- Shifted sets and sums of sets. -/
namespace Go.Zz
open Go.RowKit Go.Proofs
set_option maxHeartbeats 400000

theorem Ints.nats {w : World} {v : Value} {L : List Nat} (h : Ints w v (castL L)) :
    ∃ (ao : Option Addr) (c : Nat) (adr : Nat → Addr), v = .slice ao L.length c ∧
      (∀ i, i < L.length → ao = some (adr 0) ∧ adr i = (adr 0).add i) ∧
      (∀ i W, i < L.length → Ext w W → W.cell? (adr i) = some (.int .i64 (nthN L i : Int))) := by
  obtain ⟨ao, c, adr, rfl, _, h2, h3⟩ := h.op
  rw [castL_len] at h2 h3
  exact ⟨ao, c, adr, by rw [castL_len], h2, fun i W hi hW => by rw [h3 i W hi hW, nth_castL]⟩

/-- the shifts of the elements of a list -/
def shiftL (l : List Int) (L : List Nat) (x : Nat) : Nat := bset (L.map (fun y => addF l x y))
theorem shiftL_snoc (l : List Int) (L : List Nat) (y x : Nat) : shiftL l (L ++ [y]) x = shiftL l L x ||| 2 ^ addF l x y := by
  unfold shiftL; rw [List.map_append]; exact bset_snoc _ _
theorem shiftL_all (l : List Int) (a x : Nat) : shiftL l (elems a) x = shiftF l a x := rfl
theorem shiftL_bd {l : List Int} (h : isGrp l = true) (L : List Nat) (x : Nat) : shiftL l L x < 2 ^ 24 := by
  refine bset_lt fun y hy => ?_
  obtain ⟨z, _, rfl⟩ := List.mem_map.1 hy
  exact addF_bd h _ _
theorem shiftL_next (l : List Int) (a k x : Nat) (hb : a.testBit k = true) : shiftL l (elemsTo a (k + 1)) x = shiftL l (elemsTo a k) x ||| 2 ^ addF l x k := by
  rw [elemsTo_succ, hb, if_pos rfl, shiftL_snoc]
theorem shiftL_same (l : List Int) (a k x : Nat) (hb : a.testBit k = false) : shiftL l (elemsTo a (k + 1)) x = shiftL l (elemsTo a k) x := by
  rw [elemsTo_succ, hb]; simp

--%call shift 166 ext shift_any _ _ _ _ _ ({0}) ({1}) ({2}) ({3})
theorem shift_any (v : Value) (l : List Int) (a x : Nat) (w : World) (h : Ints w v l) (Hgr : Hid (isGrp l = true)) (ha : a < 2 ^ 24) (hx : x < 24) :
    Calls Tryz.prog 166 #[.agg #[v], .int .i64 a, .int .i64 x] w fun e w' => e = .returned (.int .i64 (shiftF l a x)) ∧ Ext w w' := by
  obtain ⟨wb, hwb⟩ : ∃ wb, wb = w.alloc (.cells #[v] 27) := ⟨_, rfl⟩
  have hE0 := (Ext.refl w).alloc (.cells #[v] 27)
  have hb := box_cell w v 27
  rw [← hwb] at hE0 hb
  have hg : ∀ W, Ext wb W → Ints W v l := fun W hW => h.ext (hE0.trans hW)
  have hE := Ext.refl wb
  have Hwb := Lib.hid hwb
  clear hwb h
  go_enter Tryz.func166, Tryz.ntmps166
  go_wp2_with fail
  rw [← Hwb.out]
  go_loopw [7, 8] (fun ov yv wr => ∃ k : Nat, k ≤ 24 ∧ yv = .int .i64 k ∧ ov = .int .i64 ((shiftL l (elemsTo a k) x : Nat) : Int) ∧ Ext wb wr) (fun _ y _ => 24 - (intOf y).toNat)
  case atStart => exact ⟨0, by omega, rfl, by simp [shiftL, elemsTo, bset], hE⟩
  case round =>
    clear hE
    obtain ⟨k, hk, rfl, rfl, hE⟩ := hrel
    have hbx := hb wr hE
    have hsh := ishr_nat (a := a) (n := k) (by omega)
    by_cases h0 : shr a k = 0
    · have he := Lib.hid (elemsTo_all hk (shr_zero.1 h0))
      have h0' : ((shr a k : Nat) : Int) = 0 := by rw [h0]; rfl
      clear h0
      go_wp2_with fail
      go_ret
      exact ⟨ret_int (by rw [he.out]; rfl), hE0.trans hE⟩
    · have hlt := shr_pos h0 ha
      have hne := ne_zero_t h0
      have hbt := bit_test' (a := a) (n := k) (by omega) (by omega)
      clear h0
      cases hb : a.testBit k
      · rw [hb] at hbt
        have Hb := Lib.hid (shiftL_same l a k x hb)
        clear hb
        go_wp2_with fail
        go_roundw
        case rel => exact ⟨k + 1, by omega, by go_num, by rw [Hb.out], hE⟩
        case measure => (simp [intOf]; omega)
      · rw [hb] at hbt
        have Hb := Lib.hid (shiftL_next l a k x hb)
        have hz := addF_bd Hgr.out x k
        have hs1 := ishl_one (n := addF l x k) (by omega)
        have hs2 := ior_pw (shiftL_bd Hgr.out (elemsTo a k) x) hz
        clear hb
        go_wp2_with (first | (go_at_call 194; refine (add_any _ _ _ _ _ (hg _ hE) (Hgr) ((by omega)) ((by omega))).mono ?_; rintro e w' ⟨rfl, hE'⟩; replace hE := hE.trans hE'; clear hE'))
        go_roundw
        case rel => exact ⟨k + 1, by omega, by go_num, by rw [Hb.out], hE⟩
        case measure => (simp [intOf]; omega)

--%call l3Shift 143 ext l3Shift_any _ _ _ _ _ ({0}) ({1}) ({2}) ({3})
theorem l3Shift_any (v : Value) (l : List Int) (a x : Nat) (w : World) (h : Ints w v l) (Hgr : Hid (isGrp l = true)) (ha : a < 2 ^ 24) (hx : x < 24) :
    Calls Tryz.prog 143 #[.agg #[v], .int .i64 a, .int .i64 x] w fun e w' => e = .returned (.int .i64 (shiftF l a x)) ∧ Ext w w' := by
  obtain ⟨wb, hwb⟩ : ∃ wb, wb = w.alloc (.cells #[v] 27) := ⟨_, rfl⟩
  have hE0 := (Ext.refl w).alloc (.cells #[v] 27)
  have hb := box_cell w v 27
  rw [← hwb] at hE0 hb
  have hg : ∀ W, Ext wb W → Ints W v l := fun W hW => h.ext (hE0.trans hW)
  have Hwb := Lib.hid hwb
  clear hwb h
  go_enter Tryz.func143, Tryz.ntmps143
  go_wp2_with fail
  rw [← Hwb.out]
  go_wp2_with (first | (go_at_call 108; refine (l3List_any _ (ha) _).mono ?_; rintro e w1 ⟨v1, rfl, hL, hE1⟩; obtain ⟨aoL, cL, adrL, rfl, hadrL, hcellL⟩ := hL.ints.nats; have hixL := ints_index (c := cL) elI szI hadrL; clear hadrL))
  have hb1 : ∀ W, Ext w1 W → W.cell? ⟨w.heap.size, 0, none⟩ = some v := fun W hW => hb W (hE1.trans hW)
  have hg1 : ∀ W, Ext w1 W → Ints W v l := fun W hW => hg W (hE1.trans hW)
  have hE := Ext.refl w1
  clear hb hg hL
  have hall : ∀ y ∈ elems a, y < 24 := fun y hy => elems_lt hy
  have hlen := elems_len a
  have Hd := Lib.hid (shiftL_all l a x)
  generalize elems a = L at hcellL hixL hall hlen Hd ⊢
  go_loopw [7, 9] (fun ov i wr => ∃ k : Nat, k ≤ L.length ∧ i = .int .i64 k ∧ ov = .int .i64 ((shiftL l (L.take k) x : Nat) : Int) ∧ Ext w1 wr) (fun _ i _ => L.length - (intOf i).toNat)
  case atStart => exact ⟨0, by omega, rfl, by simp [shiftL, bset], hE⟩
  case round =>
    clear hE
    obtain ⟨k, hk, rfl, rfl, hE⟩ := hrel
    by_cases hlt : k < L.length
    · have hck := fun U => hcellL k _ hlt (lat_ext w1 U)
      have hbx := fun U => hb1 _ (lat_ext w1 U)
      have hby := hall _ (nthN_mem hlt)
      have Ht := Lib.hid (shiftL_snoc l (L.take k) (nthN L k) x)
      have Ht2 := Lib.hid (take_nthN L k hlt)
      have hz := addF_bd Hgr.out x (nthN L k)
      have hcm := Lib.hid (addF_comm l (nthN L k) x)
      have hs1 := ishl_one (n := addF l (nthN L k) x) (by rw [hcm.out]; omega)
      have hs2 := ior_pw (shiftL_bd Hgr.out (L.take k) x) (show addF l (nthN L k) x < 24 by rw [hcm.out]; omega)
      go_wp2_with fail
      (refine wp_region_lat (w1) (by kernel_rfl) (by kernel_rfl) hE ?_); (repeat (go_big_quiet_step (first | (go_at_call 141; exact Calls.lat (l2Add_any _ _ _ _ _ (hg1 _ (lat_ext w1 _)) (Hgr) ((by omega)) ((by omega))))))); (refine wpQuiet_nil ?_); (intro W hE'); (replace hE := lat_of hE'); (clear hE')
      go_wp2_with fail
      go_roundw
      case rel => exact ⟨k + 1, by omega, by go_num, by rw [Ht2.out, Ht.out, hcm.out], hE⟩
      case measure => (simp [intOf]; omega)
    · have hkl : k = L.length := by omega
      subst hkl
      go_wp2_with fail
      go_ret
      exact ⟨ret_int (by rw [List.take_length, Hd.out]), hE0.trans (hE1.trans hE)⟩
end Go.Zz

/- Sums of sets, and the full set. -/
namespace Go.Zz
open Go.RowKit Go.Proofs
set_option maxHeartbeats 400000

--%call sum 79 ext sum_any _ _ _ _ _ ({0}) ({1}) ({2}) ({3})
theorem sum_any (v : Value) (l : List Int) (a b : Nat) (w : World) (h : Ints w v l) (Hgr : Hid (isGrp l = true)) (ha : a < 2 ^ 24) (hb' : b < 2 ^ 24) :
    Calls Tryz.prog 79 #[.agg #[v], .int .i64 a, .int .i64 b] w fun e w' => e = .returned (.int .i64 (sumF l a b)) ∧ Ext w w' := by
  obtain ⟨wb, hwb⟩ : ∃ wb, wb = w.alloc (.cells #[v] 27) := ⟨_, rfl⟩
  have hE0 := (Ext.refl w).alloc (.cells #[v] 27)
  have hb := box_cell w v 27
  rw [← hwb] at hE0 hb
  have hg : ∀ W, Ext wb W → Ints W v l := fun W hW => h.ext (hE0.trans hW)
  have Hwb := Lib.hid hwb
  clear hwb h
  go_enter Tryz.func79, Tryz.ntmps79
  go_wp2_with fail
  rw [← Hwb.out]
  go_wp2_with (first | (go_at_call 153; refine (members_any _ (ha) _).mono ?_; rintro e w1 ⟨v1, rfl, hL, hE1⟩; obtain ⟨aoL, cL, adrL, rfl, hadrL, hcellL⟩ := hL.ints.nats; have hixL := ints_index (c := cL) elI szI hadrL; clear hadrL))
  have hb1 : ∀ W, Ext w1 W → W.cell? ⟨w.heap.size, 0, none⟩ = some v := fun W hW => hb W (hE1.trans hW)
  have hg1 : ∀ W, Ext w1 W → Ints W v l := fun W hW => hg W (hE1.trans hW)
  have hE := Ext.refl w1
  clear hb hg hL
  have hall : ∀ y ∈ elems a, y < 24 := fun y hy => elems_lt hy
  have hlen := elems_len a
  have Hd := Lib.hid (sumTo_all l a b)
  generalize elems a = L at hcellL hixL hall hlen Hd ⊢
  go_loopw [7, 13] (fun ov i wr => ∃ k : Nat, k ≤ L.length ∧ i = .int .i64 k ∧ ov = .int .i64 ((sumTo l (L.take k) b : Nat) : Int) ∧ Ext w1 wr) (fun _ i _ => L.length - (intOf i).toNat)
  case atStart => exact ⟨0, by omega, rfl, by simp [sumTo, bset], hE⟩
  case round =>
    clear hE
    obtain ⟨k, hk, rfl, rfl, hE⟩ := hrel
    by_cases hlt : k < L.length
    · have hck := hcellL k _ hlt hE
      have hbx := hb1 _ hE
      have hby := hall _ (nthN_mem hlt)
      have Ht := Lib.hid (sumTo_snoc l (L.take k) (nthN L k) b)
      have Ht2 := Lib.hid (take_nthN L k hlt)
      have hs := sumTo_bd Hgr.out (L.take k) b
      have hf := shiftF_bd Hgr.out b (nthN L k)
      have hs2 := ior_nat (show sumTo l (L.take k) b < 2 ^ 63 by omega) (show shiftF l b (nthN L k) < 2 ^ 63 by omega)
      go_wp2_with (first | (go_at_call 166; refine (shift_any _ _ _ _ _ (hg1 _ hE) (Hgr) (hb') (hby)).mono ?_; rintro e w' ⟨rfl, hE'⟩; replace hE := hE.trans hE'; clear hE'))
      go_roundw
      case rel => exact ⟨k + 1, by omega, by go_num, by rw [Ht2.out, Ht.out], hE⟩
      case measure => (simp [intOf]; omega)
    · have hkl : k = L.length := by omega
      subst hkl
      go_wp2_with fail
      go_ret
      exact ⟨ret_int (by rw [List.take_length, Hd.out]), hE0.trans (hE1.trans hE)⟩

--%call l4Sum 84 ext l4Sum_any _ _ _ _ _ ({0}) ({1}) ({2}) ({3})
theorem l4Sum_any (v : Value) (l : List Int) (a b : Nat) (w : World) (h : Ints w v l) (Hgr : Hid (isGrp l = true)) (ha : a < 2 ^ 24) (hb' : b < 2 ^ 24) :
    Calls Tryz.prog 84 #[.agg #[v], .int .i64 a, .int .i64 b] w fun e w' => e = .returned (.int .i64 (sumF l a b)) ∧ Ext w w' := by
  obtain ⟨wb, hwb⟩ : ∃ wb, wb = w.alloc (.cells #[v] 27) := ⟨_, rfl⟩
  have hE0 := (Ext.refl w).alloc (.cells #[v] 27)
  have hb := box_cell w v 27
  rw [← hwb] at hE0 hb
  have hg : ∀ W, Ext wb W → Ints W v l := fun W hW => h.ext (hE0.trans hW)
  have Hwb := Lib.hid hwb
  clear hwb h
  go_enter Tryz.func84, Tryz.ntmps84
  go_wp2_with fail
  rw [← Hwb.out]
  go_wp2_with (first | (go_at_call 108; refine (l3List_any _ (hb') _).mono ?_; rintro e w1 ⟨v1, rfl, hL, hE1⟩; obtain ⟨aoL, cL, adrL, rfl, hadrL, hcellL⟩ := hL.ints.nats; have hixL := ints_index (c := cL) elI szI hadrL; clear hadrL))
  have hb1 : ∀ W, Ext w1 W → W.cell? ⟨w.heap.size, 0, none⟩ = some v := fun W hW => hb W (hE1.trans hW)
  have hg1 : ∀ W, Ext w1 W → Ints W v l := fun W hW => hg W (hE1.trans hW)
  have hE := Ext.refl w1
  clear hb hg hL
  have hall : ∀ y ∈ elems b, y < 24 := fun y hy => elems_lt hy
  have hlen := elems_len b
  have Hd : Hid (sumTo l (elems b) a = sumF l a b) := Lib.hid (by rw [sumTo_all, sumF_comm])
  generalize elems b = L at hcellL hixL hall hlen Hd ⊢
  go_loopw [7, 9] (fun ov i wr => ∃ k : Nat, k ≤ L.length ∧ i = .int .i64 k ∧ ov = .int .i64 ((sumTo l (L.take k) a : Nat) : Int) ∧ Ext w1 wr) (fun _ i _ => L.length - (intOf i).toNat)
  case atStart => exact ⟨0, by omega, rfl, by simp [sumTo, bset], hE⟩
  case round =>
    clear hE
    obtain ⟨k, hk, rfl, rfl, hE⟩ := hrel
    by_cases hlt : k < L.length
    · have hck := fun U => hcellL k _ hlt (lat_ext w1 U)
      have hbx := fun U => hb1 _ (lat_ext w1 U)
      have hby := hall _ (nthN_mem hlt)
      have Ht := Lib.hid (sumTo_snoc l (L.take k) (nthN L k) a)
      have Ht2 := Lib.hid (take_nthN L k hlt)
      have hs := sumTo_bd Hgr.out (L.take k) a
      have hf := shiftF_bd Hgr.out a (nthN L k)
      have hs2 := ior_nat (show sumTo l (L.take k) a < 2 ^ 63 by omega) (show shiftF l a (nthN L k) < 2 ^ 63 by omega)
      go_wp2_with fail
      (refine wp_region_lat (w1) (by kernel_rfl) (by kernel_rfl) hE ?_); (repeat (go_big_quiet_step (first | (go_at_call 143; exact Calls.lat (l3Shift_any _ _ _ _ _ (hg1 _ (lat_ext w1 _)) (Hgr) (ha) (hby)))))); (refine wpQuiet_nil ?_); (intro W hE'); (replace hE := lat_of hE'); (clear hE')
      go_wp2_with fail
      go_roundw
      case rel => exact ⟨k + 1, by omega, by go_num, by rw [Ht2.out, Ht.out], hE⟩
      case measure => (simp [intOf]; omega)
    · have hkl : k = L.length := by omega
      subst hkl
      go_wp2_with fail
      go_ret
      exact ⟨ret_int (by rw [List.take_length, Hd.out]), hE0.trans (hE1.trans hE)⟩

/-- all of the list are sets, and the group is one -/
theorem areF_no {l xs : List Int} {k : Nat} (hk : k < xs.length) (h : isSetB l (nth xs k) = false) : areF l xs = false := by
  unfold areF
  have : xs.all (isSetB l) = false := by
    cases e : xs.all (isSetB l)
    · rfl
    · rw [List.all_eq_true.1 e _ (nth_mem hk)] at h; cases h
  rw [this]; rfl
theorem areF_end {l xs : List Int} (h : ∀ j, j < xs.length → isSetB l (nth xs j) = true) : areF l xs = isGrp l := by
  unfold areF
  rw [show xs.all (isSetB l) = true from List.all_eq_true.2 fun x hx => by obtain ⟨k, hk, rfl⟩ := mem_nth hx; exact h k hk]; rfl
--%call areSets 133 ext areSets_any _ _ _ _ _ ({0}) ({1})
theorem areSets_any (v u : Value) (l xs : List Int) (w : World) (h : Ints w v l) (k : Ints w u xs) :
    Calls Tryz.prog 133 #[.agg #[v], u] w fun e w' => e = .returned (.bool (areF l xs)) ∧ Ext w w' := by
  obtain ⟨wb, hwb⟩ : ∃ wb, wb = w.alloc (.cells #[v] 27) := ⟨_, rfl⟩
  have hE0 := (Ext.refl w).alloc (.cells #[v] 27)
  have hb := box_cell w v 27
  rw [← hwb] at hE0 hb
  have hg : ∀ W, Ext wb W → Ints W v l := fun W hW => h.ext (hE0.trans hW)
  obtain ⟨ao, c, adr, rfl, hlen, hadr, hcell⟩ := k.op
  have hix := ints_index (c := c) elI szI hadr
  clear hadr k
  have hE := Ext.refl wb
  have Hwb := Lib.hid hwb
  clear hwb h
  go_enter Tryz.func133, Tryz.ntmps133
  go_wp2_with fail
  rw [← Hwb.out]
  go_loopw [9] (fun i wr => ∃ k : Nat, k ≤ xs.length ∧ i = .int .i64 k ∧ (∀ j, j < k → isSetB l (nth xs j) = true) ∧ Ext wb wr) (fun i _ => xs.length - (intOf i).toNat)
  case atStart => exact ⟨0, by omega, rfl, by omega, hE⟩
  case round =>
    clear hE
    obtain ⟨k, hk, rfl, hall, hE⟩ := hrel
    have Hall := Lib.hid hall
    clear hall
    have hbx := hb _ hE
    by_cases hlt : k < xs.length
    · have hck := hcell k _ hlt (hE0.trans hE)
      cases hs : isSetB l (nth xs k)
      · have Hs := Lib.hid (areF_no hlt hs)
        go_wp2_with (first | (go_at_call 152; refine (IsSet_any _ _ _ _ (hg _ hE)).mono ?_; rintro e w' ⟨rfl, hE'⟩; replace hE := hE.trans hE'; clear hE'))
        go_ret
        exact ⟨ret_bool Hs.out.symm, hE0.trans hE⟩
      · have Hs := Lib.hid hs
        go_wp2_with (first | (go_at_call 152; refine (IsSet_any _ _ _ _ (hg _ hE)).mono ?_; rintro e w' ⟨rfl, hE'⟩; replace hE := hE.trans hE'; clear hE'))
        go_roundw
        case rel => exact ⟨k + 1, by omega, by go_num, fun j hj => by by_cases e : j = k; (subst e; exact Hs.out); exact Hall.out j (by omega), hE⟩
        case measure => (simp [intOf]; omega)
    · have hkl : k = xs.length := by omega
      subst hkl
      go_wp2_with (first | (go_at_call 131; refine (IsGroup_any _ _ _ (hg _ hE)).mono ?_; rintro e w' ⟨rfl, hE'⟩; replace hE := hE.trans hE'; clear hE'))
      go_ret
      exact ⟨ret_bool (areF_end Hall.out).symm, hE0.trans hE⟩

/-- all elements, xs a set -/
def fullF (l : List Int) : Int := if isGrp l then ((pw (ord l) - 1 : Nat) : Int) else 0
theorem fullF_t {l : List Int} (h : isGrp l = true) : fullF l = ((pw (ord l) : Nat) : Int) - 1 := by
  unfold fullF; rw [if_pos h]; have := pw_pos (ord l); omega
theorem fullF_f {l : List Int} (h : isGrp l = false) : fullF l = 0 := by unfold fullF; rw [h]; rfl
--%call FullSet 169 ext FullSet_any _ _ _ ({0})
theorem FullSet_any (v : Value) (l : List Int) (w : World) (h : Ints w v l) :
    Calls Tryz.prog 169 #[.agg #[v]] w fun e w' => e = .returned (.int .i64 (fullF l)) ∧ Ext w w' := by
  have hE0 := (Ext.refl w).alloc (.cells #[v] 27)
  have hE := Ext.refl (w.alloc (.cells #[v] 27))
  have hb := box_cell w v 27
  have hg : ∀ W, Ext (w.alloc (.cells #[v] 27)) W → Ints W v l := fun W hW => h.ext (hE0.trans hW)
  clear h
  cases hs : isGrp l
  · have Hs := Lib.hid (fullF_f hs)
    go_enter Tryz.func169, Tryz.ntmps169
    go_wp2_with (first | (go_at_call 131; refine (IsGroup_any _ _ _ (hg _ hE)).mono ?_; rintro e w' ⟨rfl, hE'⟩; replace hE := hE.trans hE'; clear hE'))
    go_ret
    exact ⟨ret_int Hs.out.symm, hE0.trans hE⟩
  · have Hs := Lib.hid (fullF_t hs)
    have ho := ordF_t hs
    have hb1 := ord_bd hs
    have hp1 := pw_pos (ord l)
    have hp2 := pw_le hb1.2
    have hs1 := ishl_one (n := ord l) (by omega)
    go_enter Tryz.func169, Tryz.ntmps169
    go_wp2_with (first | (go_at_call 131; refine (IsGroup_any _ _ _ (hg _ hE)).mono ?_; rintro e w' ⟨rfl, hE'⟩; replace hE := hE.trans hE'; clear hE') | (go_at_call 157; refine (OrderOf_any _ _ _ (hg _ hE)).mono ?_; rintro e w' ⟨rfl, hE'⟩; replace hE := hE.trans hE'; clear hE'))
    go_ret
    exact ⟨ret_int Hs.out.symm, hE0.trans hE⟩
end Go.Zz

/- Plain laws of searches: a without b, greedy covers, first best values. -/
namespace Go.Zz
open Go.RowKit Go.Proofs
set_option maxHeartbeats 400000

/-- a without b -/
def andN (a b : Nat) : Nat := a ^^^ (a &&& b)
theorem andN_bit (a b i : Nat) : (andN a b).testBit i = (a.testBit i && !b.testBit i) := by
  unfold andN; rw [Nat.testBit_xor, Nat.testBit_and]; cases a.testBit i <;> cases b.testBit i <;> rfl
theorem andN_lt {a b n : Nat} (h : a < 2 ^ n) : andN a b < 2 ^ n := Nat.xor_lt_two_pow h (Nat.lt_of_le_of_lt Nat.and_le_left h)
theorem andN_sub : ∀ (n a b : Nat), a < 2 ^ n → andN a b + (a &&& b) = a
  | 0, a, b, h => by
    obtain rfl : a = 0 := by simp at h; omega
    simp [andN]
  | n + 1, a, b, h => by
    have hp : 2 ^ (n + 1) = 2 ^ n * 2 := Nat.pow_succ 2 n
    have ih := andN_sub n (a / 2) (b / 2) (by omega)
    have d1 : andN a b / 2 = andN (a / 2) (b / 2) := by
      apply Nat.eq_of_testBit_eq; intro i
      rw [← Nat.testBit_succ, andN_bit, andN_bit, Nat.testBit_succ, Nat.testBit_succ]
    have d2 : (a &&& b) / 2 = (a / 2) &&& (b / 2) := by
      apply Nat.eq_of_testBit_eq; intro i
      rw [← Nat.testBit_succ, Nat.testBit_and, Nat.testBit_and, Nat.testBit_succ, Nat.testBit_succ]
    have m1 : (andN a b).testBit 0 = (a.testBit 0 && !b.testBit 0) := andN_bit a b 0
    have m2 : (a &&& b).testBit 0 = (a.testBit 0 && b.testBit 0) := Nat.testBit_and a b 0
    rw [Nat.testBit_zero, Nat.testBit_zero, Nat.testBit_zero] at m1 m2
    have e1 : andN a b % 2 + (a &&& b) % 2 = a % 2 := by
      rw [Bool.eq_iff_iff] at m1 m2
      simp only [decide_eq_true_eq, Bool.and_eq_true, Bool.not_eq_true', decide_eq_false_iff_not] at m1 m2
      omega
    omega
theorem andN_zero {a b : Nat} : andN a b = 0 ↔ ∀ i, a.testBit i = true → b.testBit i = true := by
  constructor
  · intro h i hi
    have := andN_bit a b i
    rw [h, Nat.zero_testBit, hi] at this
    simpa using this.symm
  · intro h
    apply Nat.eq_of_testBit_eq; intro i
    rw [andN_bit, Nat.zero_testBit]
    cases e : a.testBit i
    · rfl
    · rw [h i e]; rfl
theorem iandn_nat {a b : Nat} (ha : a < 2 ^ 63) (hb : b < 2 ^ 63) : iandn a b = ((andN a b : Nat) : Int) := by
  show IntKind.i64.wrap ((BitVec.ofInt IntKind.i64.bits (a : Int) &&& ~~~ BitVec.ofInt IntKind.i64.bits (b : Int)).toNat : Int) = _
  have e : (BitVec.ofInt IntKind.i64.bits (a : Int) &&& ~~~ BitVec.ofInt IntKind.i64.bits (b : Int)) = (BitVec.ofInt IntKind.i64.bits (a : Int) ^^^ (BitVec.ofInt IntKind.i64.bits (a : Int) &&& BitVec.ofInt IntKind.i64.bits (b : Int))) := by
    ext i hi; simp only [BitVec.getElem_and, BitVec.getElem_xor, BitVec.getElem_not]
    cases (BitVec.ofInt IntKind.i64.bits (a : Int))[i] <;> cases (BitVec.ofInt IntKind.i64.bits (b : Int))[i] <;> rfl
  rw [e, BitVec.toNat_xor, BitVec.toNat_and, bv_nat ha, bv_nat hb]
  exact wrap_nat (andN_lt ha)

/-- the first greatest value of f below k, from 0 on: the place and the value -/
def bm (f : Nat → Nat) : Nat → Nat × Nat
  | 0 => (0, 0)
  | k + 1 => if (bm f k).2 < f k then (k, f k) else bm f k
theorem bm_zero (f : Nat → Nat) : bm f 0 = (0, 0) := rfl
theorem bm_yes {f : Nat → Nat} {k : Nat} (h : (bm f k).2 < f k) : bm f (k + 1) = (k, f k) := by rw [bm, if_pos h]
theorem bm_no {f : Nat → Nat} {k : Nat} (h : ¬ (bm f k).2 < f k) : bm f (k + 1) = bm f k := by rw [bm, if_neg h]
theorem bm_one (f : Nat → Nat) : bm f 1 = (0, f 0) := by
  by_cases h : (bm f 0).2 < f 0
  · exact bm_yes h
  · rw [bm_no h]
    have : f 0 = 0 := by simp [bm] at h; exact h
    rw [this]; rfl
theorem bm_max (f : Nat → Nat) : ∀ k j, j < k → f j ≤ (bm f k).2
  | k + 1, j, h => by
    by_cases e : (bm f k).2 < f k
    · rw [bm_yes e]
      by_cases hj : j = k
      · subst hj; exact Nat.le_refl _
      · have := bm_max f k j (by omega); show f j ≤ f k; omega
    · rw [bm_no e]
      by_cases hj : j = k
      · subst hj; omega
      · exact bm_max f k j (by omega)
theorem bm_val (f : Nat → Nat) : ∀ k, (bm f k).2 = 0 ∨ (bm f k).2 = f (bm f k).1
  | 0 => Or.inl rfl
  | k + 1 => by
    by_cases e : (bm f k).2 < f k
    · rw [bm_yes e]; exact Or.inr rfl
    · rw [bm_no e]; exact bm_val f k
theorem bm_at (f : Nat → Nat) : ∀ k, (bm f k).1 ≤ k - 1
  | 0 => Nat.le_refl 0
  | k + 1 => by
    by_cases e : (bm f k).2 < f k
    · rw [bm_yes e]; exact Nat.le_refl _
    · rw [bm_no e]; have := bm_at f k; omega

/-- how many of what is left the shift of a by x takes -/
def gain (l : List Int) (a left x : Nat) : Nat := cnt (shiftF l a x &&& left)
def bestAt (l : List Int) (a left : Nat) : Nat := (bm (gain l a left) (ord l)).1
/-- the greedy cover -/
def greedyN (l : List Int) (a : Nat) : Nat → Nat → Nat → Nat
  | 0, out, _ => out
  | n + 1, out, left => if left = 0 then out else greedyN l a n (out ||| 2 ^ bestAt l a left) (andN left (shiftF l a (bestAt l a left)))
theorem greedyN_end (l : List Int) (a n out : Nat) : greedyN l a n out 0 = out := by cases n <;> rfl
theorem greedyN_step {l : List Int} {a n out left : Nat} (h : left ≠ 0) :
    greedyN l a (n + 1) out left = greedyN l a n (out ||| 2 ^ bestAt l a left) (andN left (shiftF l a (bestAt l a left))) := by rw [greedyN, if_neg h]
def fullN (l : List Int) : Nat := pw (ord l) - 1
def greedyF (l : List Int) (a : Int) : Int := if isSetB l a && decide (a ≠ 0) then (greedyN l a.toNat (fullN l) 0 (fullN l) : Int) else 0
def isOneB (l : List Int) (a : Int) : Bool := isSetB l a && decide (a ≠ 0)
theorem isOneB_no {l : List Int} {a : Int} (h : isSetB l a = false) : isOneB l a = false := by unfold isOneB; rw [h]; rfl
theorem isOneB_zero (l : List Int) : isOneB l 0 = false := by unfold isOneB; simp
theorem isOneB_yes {l : List Int} {n : Nat} (h : isSetB l n = true) (h0 : 0 < n) : isOneB l n = true := by unfold isOneB; rw [h]; simp; omega
theorem greedyF_no {l : List Int} {a : Int} (h : isOneB l a = false) : greedyF l a = 0 := by unfold greedyF; unfold isOneB at h; rw [h]; rfl
theorem greedyF_yes {l : List Int} {n : Nat} (h : isOneB l n = true) : greedyF l n = (greedyN l n (fullN l) 0 (fullN l) : Int) := by unfold greedyF; unfold isOneB at h; rw [h]; rfl
theorem fullN_lt (l : List Int) : fullN l < 2 ^ ord l := by unfold fullN; have := pw_pos (ord l); rw [← pw_eq]; omega
theorem fullN_bit (l : List Int) (i : Nat) : (fullN l).testBit i = decide (i < ord l) := by unfold fullN; rw [pw_eq]; exact Nat.testBit_two_pow_sub_one _ _
theorem bestAt_lt {l : List Int} (h : isGrp l = true) (a left : Nat) : bestAt l a left < ord l := by
  unfold bestAt; have := bm_at (gain l a left) (ord l); have := (ord_bd h).1; omega
theorem pos_of_bit {a i : Nat} (h : a.testBit i = true) : a ≠ 0 := by intro e; rw [e, Nat.zero_testBit] at h; cases h
theorem bit_of_pos {a : Nat} (h : a ≠ 0) : ∃ i, a.testBit i = true := by
  refine Classical.byContradiction fun hn => h (Nat.eq_of_testBit_eq fun i => ?_)
  rw [Nat.zero_testBit]
  cases e : a.testBit i
  · rfl
  · exact absurd ⟨i, e⟩ hn
theorem cnt_ne {a : Nat} (h : cnt a ≠ 0) : a ≠ 0 := fun e => h (by rw [e]; exact cnt_zero)
theorem bit_lt {a n i : Nat} (ha : a < 2 ^ n) (h : a.testBit i = true) : i < n := by
  refine Classical.byContradiction fun hn => ?_
  rw [testBit_ge ha (by omega)] at h; cases h
/-- some shift meets what is left -/
theorem meets {l : List Int} (hg : isGrp l = true) {a left : Nat} (ha : a ≠ 0) (ha2 : a < 2 ^ ord l) (hl : left ≠ 0) (hl2 : left < 2 ^ ord l) :
    ∃ x, x < ord l ∧ gain l a left x ≠ 0 := by
  obtain ⟨y, hy⟩ := bit_of_pos ha
  obtain ⟨z, hz⟩ := bit_of_pos hl
  have hy2 := bit_lt ha2 hy
  have hz2 := bit_lt hl2 hz
  have ho := isGrp_ords hg
  have hb := (ord_bd hg).2
  have he : addF l (addF l z (negF l y)) y = z := by
    rw [addF_assoc l ho, addF_comm l (negF l y) y, addF_neg l ho, addF_comm l z 0, addF_zero l ho z hz2]
  refine ⟨addF l z (negF l y), addF_lt l ho _ _, ?_⟩
  have hbit : (shiftF l a (addF l z (negF l y)) &&& left).testBit z = true := by
    rw [Nat.testBit_and, hz, testBit_shiftF.2 ⟨y, by omega, hy, he⟩]; rfl
  have hp := cnt_pos (Nat.pos_of_ne_zero (pos_of_bit hbit)) (Nat.lt_of_le_of_lt Nat.and_le_right (Nat.lt_of_lt_of_le hl2 (pow_ord hg)))
  unfold gain; omega
theorem greedy_less {l : List Int} (hg : isGrp l = true) {a left : Nat} (ha : a ≠ 0) (ha2 : a < 2 ^ ord l) (hl : left ≠ 0) (hl2 : left < 2 ^ ord l) :
    andN left (shiftF l a (bestAt l a left)) < left := by
  obtain ⟨x, hx, hn⟩ := meets hg ha ha2 hl hl2
  have h1 := bm_max (gain l a left) (ord l) x hx
  have h2 : gain l a left (bestAt l a left) ≠ 0 := by
    unfold bestAt
    rcases bm_val (gain l a left) (ord l) with h | h <;> omega
  have h3 : shiftF l a (bestAt l a left) &&& left ≠ 0 := cnt_ne h2
  have h4 := andN_sub (ord l) left (shiftF l a (bestAt l a left)) hl2
  rw [Nat.and_comm] at h3
  omega
/-- what is covered beside what is left -/
theorem left_gain {l : List Int} (hg : isGrp l = true) (a x c : Nat) : andN (shiftF l a x) c = shiftF l a x &&& andN (fullN l) c := by
  apply Nat.eq_of_testBit_eq; intro i
  rw [andN_bit, Nat.testBit_and, andN_bit, fullN_bit]
  cases e : (shiftF l a x).testBit i
  · rfl
  · have := bit_lt (shiftF_lt (isGrp_ords hg) a x) e
    simp [this]
theorem left_next (l : List Int) (s c : Nat) : andN (fullN l) (c ||| s) = andN (andN (fullN l) c) s := by
  apply Nat.eq_of_testBit_eq; intro i
  rw [andN_bit, andN_bit, andN_bit, Nat.testBit_or]
  cases (fullN l).testBit i <;> cases c.testBit i <;> cases s.testBit i <;> rfl
theorem left_zero {l : List Int} {c : Nat} (hc : c < 2 ^ ord l) : andN (fullN l) c = 0 ↔ c = fullN l := by
  rw [andN_zero]
  constructor
  · intro h
    apply Nat.eq_of_testBit_eq; intro i
    cases e : (fullN l).testBit i
    · rw [fullN_bit] at e
      exact testBit_ge hc (by have := of_decide_eq_false e; omega)
    · exact h i e
  · rintro rfl i hi; exact hi
theorem left_start (l : List Int) : andN (fullN l) 0 = fullN l := by
  apply Nat.eq_of_testBit_eq; intro i
  rw [andN_bit, Nat.zero_testBit]; simp
/-- the same search from -1 on -/
def bmI (f : Nat → Nat) (k : Nat) : Nat × Int := if k = 0 then (0, -1) else ((bm f k).1, ((bm f k).2 : Int))
theorem bmI_zero (f : Nat → Nat) : bmI f 0 = (0, -1) := rfl
theorem bmI_pos (f : Nat → Nat) {k : Nat} (h : k ≠ 0) : bmI f k = ((bm f k).1, ((bm f k).2 : Int)) := by unfold bmI; rw [if_neg h]
theorem bmI_yes {f : Nat → Nat} {k : Nat} (h : (bmI f k).2 < (f k : Int)) : bmI f (k + 1) = (k, (f k : Int)) := by
  rw [bmI_pos f (Nat.succ_ne_zero k)]
  by_cases hk : k = 0
  · subst hk; rw [bm_one]
  · rw [bmI_pos f hk] at h
    rw [bm_yes (f := f) (k := k) (by have : ((bm f k).2 : Int) < (f k : Int) := h; omega)]
theorem bmI_no {f : Nat → Nat} {k : Nat} (h : ¬ (bmI f k).2 < (f k : Int)) : bmI f (k + 1) = bmI f k := by
  by_cases hk : k = 0
  · subst hk; rw [bmI_zero] at h; exact absurd (show (-1 : Int) < (f 0 : Int) by omega) h
  · rw [bmI_pos f (Nat.succ_ne_zero k)]
    rw [bmI_pos f hk] at h ⊢
    rw [bm_no (f := f) (k := k) (by intro e; exact h (show ((bm f k).2 : Int) < (f k : Int) by omega))]
theorem bm_le {f : Nat → Nat} {B : Nat} (h : ∀ j, f j ≤ B) : ∀ k, (bm f k).2 ≤ B
  | 0 => Nat.zero_le _
  | k + 1 => by
    by_cases e : (bm f k).2 < f k
    · rw [bm_yes e]; exact h k
    · rw [bm_no e]; exact bm_le h k
theorem bmI_bd {f : Nat → Nat} {B : Nat} (h : ∀ j, f j ≤ B) (k : Nat) : -1 ≤ (bmI f k).2 ∧ (bmI f k).2 ≤ B := by
  by_cases hk : k = 0
  · subst hk; rw [bmI_zero]; constructor <;> simp <;> omega
  · rw [bmI_pos f hk]; have := bm_le h k; constructor <;> simp <;> omega
theorem bmI_at (f : Nat → Nat) (k : Nat) : (bmI f k).1 ≤ k - 1 := by
  by_cases hk : k = 0
  · subst hk; exact Nat.le_refl 0
  · rw [bmI_pos f hk]; exact bm_at f k
theorem gain_le (l : List Int) (a left : Nat) : ∀ j, gain l a left j ≤ 24 := fun _ => cnt_le _
theorem bestAt_I {l : List Int} (h : isGrp l = true) (a left : Nat) : (bmI (gain l a left) (ord l)).1 = bestAt l a left := by
  rw [bmI_pos _ (by have := (ord_bd h).1; omega)]; rfl
end Go.Zz
