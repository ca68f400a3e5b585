/- The reference's sum of elements, and shifted sets. -/
import Derived.Test.YtgjomoedgmofbaaGr3
import Derived.Deep.RegionHeld3
import Derived.Deep.RegionWith
namespace Go.Zz
open Go.RowKit Go.Proofs
set_option maxHeartbeats 400000

--%call l2Add 166 ext l2Add_any _ _ _ _ _ ({0}) ({1}) ({2}) ({3})
theorem l2Add_any (v : Value) (l : List Int) (x y : Nat) (w : World) (h : Ints w v l) (Hgr : Hid (isGrp l = true)) (hx : x < 16777216) (hy : y < 16777216) :
    Calls Try.prog 166 #[.agg #[v], .int .i64 x, .int .i64 y] w fun e w' => e = .returned (.int .i64 (addF l x y)) ∧ Ext w w' := by
  obtain ⟨ao, c, adr, rfl, hlen, hadr, hcell⟩ := h.op
  have hix := ints_index (c := c) elI szI hadr
  clear hadr h
  obtain ⟨wb, hwb⟩ : ∃ wb, wb = w.alloc (.cells #[.slice ao l.length c] 26) := ⟨_, rfl⟩
  have hE0 := (Ext.refl w).alloc (.cells #[.slice ao l.length c] 26)
  have hb := box_cell w (.slice ao l.length c) 26
  rw [← hwb] at hE0 hb
  have hE := Ext.refl wb
  have Hwb := Lib.hid hwb
  have hA := addF_bd Hgr.out x y
  have h3 := isGrp_len Hgr.out
  clear hwb
  go_enter Try.func166, Try.ntmps166
  go_wp2_with fail
  rw [← Hwb.out]
  go_loopw [1, 2, 7, 8, 9] (fun xv yv sv uv i wr => ∃ k x' y' s u : Nat, k ≤ l.length ∧ x' ≤ x ∧ y' ≤ y ∧ s + u * addF (l.drop k) x' y' = addF l x y ∧ (u : Int) = prodL (l.take k) ∧ xv = .int .i64 x' ∧ yv = .int .i64 y' ∧ sv = .int .i64 s ∧ uv = .int .i64 u ∧ i = .int .i64 k ∧ Ext wb wr) (fun _ _ _ _ i _ => l.length - (intOf i).toNat)
  case atStart => exact ⟨0, x, y, 0, 1, by omega, by omega, by omega, by simp, by simp [prodL], rfl, rfl, rfl, rfl, rfl, hE⟩
  case round =>
    clear hE
    obtain ⟨k, x', y', s, u, hk, hx', hy', hs, hu, rfl, rfl, rfl, rfl, rfl, hE⟩ := hrel
    have hsb := add_inv hs hA
    have hbx := hb wr hE
    obtain ⟨hu1, hu2⟩ := prodL_bd3 k l hk (by omega) (fun j hj => isGrp_nth Hgr.out (by omega))
    rw [← hu] at hu1 hu2
    have Hs := Lib.hid hs
    have Hu := Lib.hid hu
    clear hs hu hA
    by_cases hlt : k < l.length
    · have hck := hcell k _ hlt (hE0.trans hE)
      obtain ⟨hq1, hq2⟩ := isGrp_nth Hgr.out hlt
      obtain ⟨q, hq⟩ := Int.eq_ofNat_of_zero_le (show 0 ≤ nth l k by omega)
      have Hst := Lib.hid (addF_step hlt hq x' y')
      have hu' : nth l k * prodL (l.take k) = prodL (l.take (k + 1)) := by rw [prodL_take l k hlt, Int.mul_comm]
      have Hu2 := Lib.hid hu'
      rw [hq] at hq1 hq2
      have Hq := Lib.hid hq
      have hd : (x' % q + y' % q) % q < 24 := Nat.lt_of_lt_of_le (Nat.mod_lt _ (by omega)) (by omega)
      have hm1 : ((x' % q + y' % q) % q) * u ≤ 24 * 13824 := Nat.mul_le_mul (by omega) (by omega)
      have hm2 : u * q ≤ 13824 * 24 := Nat.mul_le_mul (by omega) (by omega)
      have c1 : ((x' % q + y' % q : Nat) : Int) = (x' : Int) % (q : Int) + (y' : Int) % (q : Int) := by simp
      have c2 : ((((x' % q + y' % q) % q) * u : Nat) : Int) = ((x' : Int) % (q : Int) + (y' : Int) % (q : Int)) % (q : Int) * (u : Int) := by rw [Int.natCast_mul, Int.natCast_emod, c1]
      have c3 : ((u * q : Nat) : Int) = (u : Int) * (q : Int) := Int.natCast_mul _ _
      have b1 : (x' : Int) % (q : Int) < 24 := by have := Int.emod_lt_of_pos (x' : Int) (show (0:Int) < q by omega); omega
      have b2 : (y' : Int) % (q : Int) < 24 := by have := Int.emod_lt_of_pos (y' : Int) (show (0:Int) < q by omega); omega
      have b3 : 0 ≤ (x' : Int) % (q : Int) := Int.emod_nonneg _ (by omega)
      have b4 : 0 ≤ (y' : Int) % (q : Int) := Int.emod_nonneg _ (by omega)
      have b5 : ((x' : Int) % (q : Int) + (y' : Int) % (q : Int)) % (q : Int) * (u : Int) ≤ 331776 := by rw [← c2]; omega
      have b6 : 0 ≤ ((x' : Int) % (q : Int) + (y' : Int) % (q : Int)) % (q : Int) * (u : Int) := by rw [← c2]; omega
      have b7 : (u : Int) * (q : Int) ≤ 331776 := by rw [← c3]; omega
      have b8 : 0 ≤ (u : Int) * (q : Int) := by rw [← c3]; omega
      have C2 := Lib.hid c2
      have C3 := Lib.hid c3
      clear c1 c2 c3 hd hm1 hm2 hu'
      go_wp2_with fail
      (refine wp_region_lat (wb) (by kernel_rfl) (by kernel_rfl) hE ?_); (repeat (go_big_quiet_step (first | fail))); (refine wpQuiet_nil ?_); (intro W hE'); (replace hE := lat_of hE'); (clear hE')
      go_wp2_with fail
      go_roundw
      case rel =>
        refine ⟨k + 1, x' / q, y' / q, s + ((x' % q + y' % q) % q) * u, u * q, by omega, Nat.le_trans (Nat.div_le_self _ _) hx', Nat.le_trans (Nat.div_le_self _ _) hy', ?_, ?_, ?_, ?_, ?_, ?_, by go_num, hE⟩
        · apply add_next
          rw [← Hst.out]; exact Hs.out
        · rw [← Hu2.out, ← Hu.out, Hq.out]; push_cast; rw [Int.mul_comm]
        · exact div_val (Nat.le_trans hx' (Nat.le_of_lt hx))
        · exact div_val (Nat.le_trans hy' (Nat.le_of_lt hy))
        · exact step_val hsb b6 b5
        · exact mul_val u q
      case measure => (simp [intOf]; omega)
    · have hkl : k = l.length := by omega
      subst hkl
      go_wp2_with fail
      go_ret
      exact ⟨ret_int (by have := Hs.out; rw [List.drop_length] at this; simp [addF] at this; omega), hE0.trans hE⟩
end Go.Zz

/- Shifted sets and sums of sets. -/
namespace Go.Zz
open Go.RowKit Go.Proofs
set_option maxHeartbeats 400000

theorem Ints.nats {w : World} {v : Value} {L : List Nat} (h : Ints w v (castL L)) :
    ∃ (ao : Option Addr) (c : Nat) (adr : Nat → Addr), v = .slice ao L.length c ∧
      (∀ i, i < L.length → ao = some (adr 0) ∧ adr i = (adr 0).add i) ∧
      (∀ i W, i < L.length → Ext w W → W.cell? (adr i) = some (.int .i64 (nthN L i : Int))) := by
  obtain ⟨ao, c, adr, rfl, _, h2, h3⟩ := h.op
  rw [castL_len] at h2 h3
  exact ⟨ao, c, adr, by rw [castL_len], h2, fun i W hi hW => by rw [h3 i W hi hW, nth_castL]⟩

/-- the shifts of the elements of a list -/
def shiftL (l : List Int) (L : List Nat) (x : Nat) : Nat := bset (L.map (fun y => addF l x y))
theorem shiftL_snoc (l : List Int) (L : List Nat) (y x : Nat) : shiftL l (L ++ [y]) x = shiftL l L x ||| 2 ^ addF l x y := by
  unfold shiftL; rw [List.map_append]; exact bset_snoc _ _
theorem shiftL_all (l : List Int) (a x : Nat) : shiftL l (elems a) x = shiftF l a x := rfl
theorem shiftL_bd {l : List Int} (h : isGrp l = true) (L : List Nat) (x : Nat) : shiftL l L x < 2 ^ 24 := by
  refine bset_lt fun y hy => ?_
  obtain ⟨z, _, rfl⟩ := List.mem_map.1 hy
  exact addF_bd h _ _
theorem shiftL_next (l : List Int) (a k x : Nat) (hb : a.testBit k = true) : shiftL l (elemsTo a (k + 1)) x = shiftL l (elemsTo a k) x ||| 2 ^ addF l x k := by
  rw [elemsTo_succ, hb, if_pos rfl, shiftL_snoc]
theorem shiftL_same (l : List Int) (a k x : Nat) (hb : a.testBit k = false) : shiftL l (elemsTo a (k + 1)) x = shiftL l (elemsTo a k) x := by
  rw [elemsTo_succ, hb]; simp

--%call shift 157 ext shift_any _ _ _ _ _ ({0}) ({1}) ({2}) ({3})
theorem shift_any (v : Value) (l : List Int) (a x : Nat) (w : World) (h : Ints w v l) (Hgr : Hid (isGrp l = true)) (ha : a < 2 ^ 24) (hx : x < 24) :
    Calls Try.prog 157 #[.agg #[v], .int .i64 a, .int .i64 x] w fun e w' => e = .returned (.int .i64 (shiftF l a x)) ∧ Ext w w' := by
  obtain ⟨wb, hwb⟩ : ∃ wb, wb = w.alloc (.cells #[v] 26) := ⟨_, rfl⟩
  have hE0 := (Ext.refl w).alloc (.cells #[v] 26)
  have hb := box_cell w v 26
  rw [← hwb] at hE0 hb
  have hg : ∀ W, Ext wb W → Ints W v l := fun W hW => h.ext (hE0.trans hW)
  have hE := Ext.refl wb
  have Hwb := Lib.hid hwb
  clear hwb h
  go_enter Try.func157, Try.ntmps157
  go_wp2_with fail
  rw [← Hwb.out]
  go_loopw [7, 8] (fun ov yv wr => ∃ k : Nat, k ≤ 24 ∧ yv = .int .i64 k ∧ ov = .int .i64 ((shiftL l (elemsTo a k) x : Nat) : Int) ∧ Ext wb wr) (fun _ y _ => 24 - (intOf y).toNat)
  case atStart => exact ⟨0, by omega, rfl, by simp [shiftL, elemsTo, bset], hE⟩
  case round =>
    clear hE
    obtain ⟨k, hk, rfl, rfl, hE⟩ := hrel
    have hbx := hb wr hE
    have hsh := ishr_nat (a := a) (n := k) (by omega)
    by_cases h0 : shr a k = 0
    · have he := Lib.hid (elemsTo_all hk (shr_zero.1 h0))
      have h0' : ((shr a k : Nat) : Int) = 0 := by rw [h0]; rfl
      clear h0
      go_wp2_with fail
      go_ret
      exact ⟨ret_int (by rw [he.out]; rfl), hE0.trans hE⟩
    · have hlt := shr_pos h0 ha
      have hne := ne_zero_t h0
      have hbt := bit_test' (a := a) (n := k) (by omega) (by omega)
      clear h0
      cases hb : a.testBit k
      · rw [hb] at hbt
        have Hb := Lib.hid (shiftL_same l a k x hb)
        clear hb
        go_wp2_with fail
        go_roundw
        case rel => exact ⟨k + 1, by omega, by go_num, by rw [Hb.out], hE⟩
        case measure => (simp [intOf]; omega)
      · rw [hb] at hbt
        have Hb := Lib.hid (shiftL_next l a k x hb)
        have hz := addF_bd Hgr.out x k
        have hs1 := ishl_one (n := addF l x k) (by omega)
        have hs2 := ior_pw (shiftL_bd Hgr.out (elemsTo a k) x) hz
        clear hb
        go_wp2_with (first | (go_at_call 223; refine (add_any _ _ _ _ _ (hg _ hE) (Hgr) ((by omega)) ((by omega))).mono ?_; rintro e w' ⟨rfl, hE'⟩; replace hE := hE.trans hE'; clear hE'))
        go_roundw
        case rel => exact ⟨k + 1, by omega, by go_num, by rw [Hb.out], hE⟩
        case measure => (simp [intOf]; omega)

--%call l3Shift 160 ext l3Shift_any _ _ _ _ _ ({0}) ({1}) ({2}) ({3})
theorem l3Shift_any (v : Value) (l : List Int) (a x : Nat) (w : World) (h : Ints w v l) (Hgr : Hid (isGrp l = true)) (ha : a < 2 ^ 24) (hx : x < 24) :
    Calls Try.prog 160 #[.agg #[v], .int .i64 a, .int .i64 x] w fun e w' => e = .returned (.int .i64 (shiftF l a x)) ∧ Ext w w' := by
  obtain ⟨wb, hwb⟩ : ∃ wb, wb = w.alloc (.cells #[v] 26) := ⟨_, rfl⟩
  have hE0 := (Ext.refl w).alloc (.cells #[v] 26)
  have hb := box_cell w v 26
  rw [← hwb] at hE0 hb
  have hg : ∀ W, Ext wb W → Ints W v l := fun W hW => h.ext (hE0.trans hW)
  have Hwb := Lib.hid hwb
  clear hwb h
  go_enter Try.func160, Try.ntmps160
  go_wp2_with fail
  rw [← Hwb.out]
  go_wp2_with (first | (go_at_call 174; refine (l3List_any _ (ha) _).mono ?_; rintro e w1 ⟨v1, rfl, hL, hE1⟩; obtain ⟨aoL, cL, adrL, rfl, hadrL, hcellL⟩ := hL.ints.nats; have hixL := ints_index (c := cL) elI szI hadrL; clear hadrL))
  have hb1 : ∀ W, Ext w1 W → W.cell? ⟨w.heap.size, 0, none⟩ = some v := fun W hW => hb W (hE1.trans hW)
  have hg1 : ∀ W, Ext w1 W → Ints W v l := fun W hW => hg W (hE1.trans hW)
  have hE := Ext.refl w1
  clear hb hg hL
  have hall : ∀ y ∈ elems a, y < 24 := fun y hy => elems_lt hy
  have hlen := elems_len a
  have Hd := Lib.hid (shiftL_all l a x)
  generalize elems a = L at hcellL hixL hall hlen Hd ⊢
  go_loopw [7, 9] (fun ov i wr => ∃ k : Nat, k ≤ L.length ∧ i = .int .i64 k ∧ ov = .int .i64 ((shiftL l (L.take k) x : Nat) : Int) ∧ Ext w1 wr) (fun _ i _ => L.length - (intOf i).toNat)
  case atStart => exact ⟨0, by omega, rfl, by simp [shiftL, bset], hE⟩
  case round =>
    clear hE
    obtain ⟨k, hk, rfl, rfl, hE⟩ := hrel
    by_cases hlt : k < L.length
    · have hck := fun U => hcellL k _ hlt (lat_ext w1 U)
      have hbx := fun U => hb1 _ (lat_ext w1 U)
      have hby := hall _ (nthN_mem hlt)
      have Ht := Lib.hid (shiftL_snoc l (L.take k) (nthN L k) x)
      have Ht2 := Lib.hid (take_nthN L k hlt)
      have hz := addF_bd Hgr.out x (nthN L k)
      have hcm := Lib.hid (addF_comm l (nthN L k) x)
      have hs1 := ishl_one (n := addF l (nthN L k) x) (by rw [hcm.out]; omega)
      have hs2 := ior_pw (shiftL_bd Hgr.out (L.take k) x) (show addF l (nthN L k) x < 24 by rw [hcm.out]; omega)
      go_wp2_with fail
      (refine wp_region_lat (w1) (by kernel_rfl) (by kernel_rfl) hE ?_); (repeat (go_big_quiet_step (first | (go_at_call 166; exact Calls.lat (l2Add_any _ _ _ _ _ (hg1 _ (lat_ext w1 _)) (Hgr) ((by omega)) ((by omega))))))); (refine wpQuiet_nil ?_); (intro W hE'); (replace hE := lat_of hE'); (clear hE')
      go_wp2_with fail
      go_roundw
      case rel => exact ⟨k + 1, by omega, by go_num, by rw [Ht2.out, Ht.out, hcm.out], hE⟩
      case measure => (simp [intOf]; omega)
    · have hkl : k = L.length := by omega
      subst hkl
      go_wp2_with fail
      go_ret
      exact ⟨ret_int (by rw [List.take_length, Hd.out]), hE0.trans (hE1.trans hE)⟩
end Go.Zz

/- Sums of sets, and the full set. -/
namespace Go.Zz
open Go.RowKit Go.Proofs
set_option maxHeartbeats 400000

--%call sum 113 ext sum_any _ _ _ _ _ ({0}) ({1}) ({2}) ({3})
theorem sum_any (v : Value) (l : List Int) (a b : Nat) (w : World) (h : Ints w v l) (Hgr : Hid (isGrp l = true)) (ha : a < 2 ^ 24) (hb' : b < 2 ^ 24) :
    Calls Try.prog 113 #[.agg #[v], .int .i64 a, .int .i64 b] w fun e w' => e = .returned (.int .i64 (sumF l a b)) ∧ Ext w w' := by
  obtain ⟨wb, hwb⟩ : ∃ wb, wb = w.alloc (.cells #[v] 26) := ⟨_, rfl⟩
  have hE0 := (Ext.refl w).alloc (.cells #[v] 26)
  have hb := box_cell w v 26
  rw [← hwb] at hE0 hb
  have hg : ∀ W, Ext wb W → Ints W v l := fun W hW => h.ext (hE0.trans hW)
  have Hwb := Lib.hid hwb
  clear hwb h
  go_enter Try.func113, Try.ntmps113
  go_wp2_with fail
  rw [← Hwb.out]
  go_wp2_with (first | (go_at_call 173; refine (members_any _ (ha) _).mono ?_; rintro e w1 ⟨v1, rfl, hL, hE1⟩; obtain ⟨aoL, cL, adrL, rfl, hadrL, hcellL⟩ := hL.ints.nats; have hixL := ints_index (c := cL) elI szI hadrL; clear hadrL))
  have hb1 : ∀ W, Ext w1 W → W.cell? ⟨w.heap.size, 0, none⟩ = some v := fun W hW => hb W (hE1.trans hW)
  have hg1 : ∀ W, Ext w1 W → Ints W v l := fun W hW => hg W (hE1.trans hW)
  have hE := Ext.refl w1
  clear hb hg hL
  have hall : ∀ y ∈ elems a, y < 24 := fun y hy => elems_lt hy
  have hlen := elems_len a
  have Hd := Lib.hid (sumTo_all l a b)
  generalize elems a = L at hcellL hixL hall hlen Hd ⊢
  go_loopw [7, 13] (fun ov i wr => ∃ k : Nat, k ≤ L.length ∧ i = .int .i64 k ∧ ov = .int .i64 ((sumTo l (L.take k) b : Nat) : Int) ∧ Ext w1 wr) (fun _ i _ => L.length - (intOf i).toNat)
  case atStart => exact ⟨0, by omega, rfl, by simp [sumTo, bset], hE⟩
  case round =>
    clear hE
    obtain ⟨k, hk, rfl, rfl, hE⟩ := hrel
    by_cases hlt : k < L.length
    · have hck := hcellL k _ hlt hE
      have hbx := hb1 _ hE
      have hby := hall _ (nthN_mem hlt)
      have Ht := Lib.hid (sumTo_snoc l (L.take k) (nthN L k) b)
      have Ht2 := Lib.hid (take_nthN L k hlt)
      have hs := sumTo_bd Hgr.out (L.take k) b
      have hf := shiftF_bd Hgr.out b (nthN L k)
      have hs2 := ior_nat (show sumTo l (L.take k) b < 2 ^ 63 by omega) (show shiftF l b (nthN L k) < 2 ^ 63 by omega)
      go_wp2_with (first | (go_at_call 157; refine (shift_any _ _ _ _ _ (hg1 _ hE) (Hgr) (hb') (hby)).mono ?_; rintro e w' ⟨rfl, hE'⟩; replace hE := hE.trans hE'; clear hE'))
      go_roundw
      case rel => exact ⟨k + 1, by omega, by go_num, by rw [Ht2.out, Ht.out], hE⟩
      case measure => (simp [intOf]; omega)
    · have hkl : k = L.length := by omega
      subst hkl
      go_wp2_with fail
      go_ret
      exact ⟨ret_int (by rw [List.take_length, Hd.out]), hE0.trans (hE1.trans hE)⟩

--%call l4Sum 118 ext l4Sum_any _ _ _ _ _ ({0}) ({1}) ({2}) ({3})
theorem l4Sum_any (v : Value) (l : List Int) (a b : Nat) (w : World) (h : Ints w v l) (Hgr : Hid (isGrp l = true)) (ha : a < 2 ^ 24) (hb' : b < 2 ^ 24) :
    Calls Try.prog 118 #[.agg #[v], .int .i64 a, .int .i64 b] w fun e w' => e = .returned (.int .i64 (sumF l a b)) ∧ Ext w w' := by
  obtain ⟨wb, hwb⟩ : ∃ wb, wb = w.alloc (.cells #[v] 26) := ⟨_, rfl⟩
  have hE0 := (Ext.refl w).alloc (.cells #[v] 26)
  have hb := box_cell w v 26
  rw [← hwb] at hE0 hb
  have hg : ∀ W, Ext wb W → Ints W v l := fun W hW => h.ext (hE0.trans hW)
  have Hwb := Lib.hid hwb
  clear hwb h
  go_enter Try.func118, Try.ntmps118
  go_wp2_with fail
  rw [← Hwb.out]
  go_wp2_with (first | (go_at_call 174; refine (l3List_any _ (hb') _).mono ?_; rintro e w1 ⟨v1, rfl, hL, hE1⟩; obtain ⟨aoL, cL, adrL, rfl, hadrL, hcellL⟩ := hL.ints.nats; have hixL := ints_index (c := cL) elI szI hadrL; clear hadrL))
  have hb1 : ∀ W, Ext w1 W → W.cell? ⟨w.heap.size, 0, none⟩ = some v := fun W hW => hb W (hE1.trans hW)
  have hg1 : ∀ W, Ext w1 W → Ints W v l := fun W hW => hg W (hE1.trans hW)
  have hE := Ext.refl w1
  clear hb hg hL
  have hall : ∀ y ∈ elems b, y < 24 := fun y hy => elems_lt hy
  have hlen := elems_len b
  have Hd : Hid (sumTo l (elems b) a = sumF l a b) := Lib.hid (by rw [sumTo_all, sumF_comm])
  generalize elems b = L at hcellL hixL hall hlen Hd ⊢
  go_loopw [7, 9] (fun ov i wr => ∃ k : Nat, k ≤ L.length ∧ i = .int .i64 k ∧ ov = .int .i64 ((sumTo l (L.take k) a : Nat) : Int) ∧ Ext w1 wr) (fun _ i _ => L.length - (intOf i).toNat)
  case atStart => exact ⟨0, by omega, rfl, by simp [sumTo, bset], hE⟩
  case round =>
    clear hE
    obtain ⟨k, hk, rfl, rfl, hE⟩ := hrel
    by_cases hlt : k < L.length
    · have hck := fun U => hcellL k _ hlt (lat_ext w1 U)
      have hbx := fun U => hb1 _ (lat_ext w1 U)
      have hby := hall _ (nthN_mem hlt)
      have Ht := Lib.hid (sumTo_snoc l (L.take k) (nthN L k) a)
      have Ht2 := Lib.hid (take_nthN L k hlt)
      have hs := sumTo_bd Hgr.out (L.take k) a
      have hf := shiftF_bd Hgr.out a (nthN L k)
      have hs2 := ior_nat (show sumTo l (L.take k) a < 2 ^ 63 by omega) (show shiftF l a (nthN L k) < 2 ^ 63 by omega)
      go_wp2_with fail
      (refine wp_region_lat (w1) (by kernel_rfl) (by kernel_rfl) hE ?_); (repeat (go_big_quiet_step (first | (go_at_call 160; exact Calls.lat (l3Shift_any _ _ _ _ _ (hg1 _ (lat_ext w1 _)) (Hgr) (ha) (hby)))))); (refine wpQuiet_nil ?_); (intro W hE'); (replace hE := lat_of hE'); (clear hE')
      go_wp2_with fail
      go_roundw
      case rel => exact ⟨k + 1, by omega, by go_num, by rw [Ht2.out, Ht.out], hE⟩
      case measure => (simp [intOf]; omega)
    · have hkl : k = L.length := by omega
      subst hkl
      go_wp2_with fail
      go_ret
      exact ⟨ret_int (by rw [List.take_length, Hd.out]), hE0.trans (hE1.trans hE)⟩

/-- all of the list are sets, and the group is one -/
theorem areF_no {l xs : List Int} {k : Nat} (hk : k < xs.length) (h : isSetB l (nth xs k) = false) : areF l xs = false := by
  unfold areF
  have : xs.all (isSetB l) = false := by
    cases e : xs.all (isSetB l)
    · rfl
    · rw [List.all_eq_true.1 e _ (nth_mem hk)] at h; cases h
  rw [this]; rfl
theorem areF_end {l xs : List Int} (h : ∀ j, j < xs.length → isSetB l (nth xs j) = true) : areF l xs = isGrp l := by
  unfold areF
  rw [show xs.all (isSetB l) = true from List.all_eq_true.2 fun x hx => by obtain ⟨k, hk, rfl⟩ := mem_nth hx; exact h k hk]; rfl
--%call areSets 158 ext areSets_any _ _ _ _ _ ({0}) ({1})
theorem areSets_any (v u : Value) (l xs : List Int) (w : World) (h : Ints w v l) (k : Ints w u xs) :
    Calls Try.prog 158 #[.agg #[v], u] w fun e w' => e = .returned (.bool (areF l xs)) ∧ Ext w w' := by
  obtain ⟨wb, hwb⟩ : ∃ wb, wb = w.alloc (.cells #[v] 26) := ⟨_, rfl⟩
  have hE0 := (Ext.refl w).alloc (.cells #[v] 26)
  have hb := box_cell w v 26
  rw [← hwb] at hE0 hb
  have hg : ∀ W, Ext wb W → Ints W v l := fun W hW => h.ext (hE0.trans hW)
  obtain ⟨ao, c, adr, rfl, hlen, hadr, hcell⟩ := k.op
  have hix := ints_index (c := c) elI szI hadr
  clear hadr k
  have hE := Ext.refl wb
  have Hwb := Lib.hid hwb
  clear hwb h
  go_enter Try.func158, Try.ntmps158
  go_wp2_with fail
  rw [← Hwb.out]
  go_loopw [9] (fun i wr => ∃ k : Nat, k ≤ xs.length ∧ i = .int .i64 k ∧ (∀ j, j < k → isSetB l (nth xs j) = true) ∧ Ext wb wr) (fun i _ => xs.length - (intOf i).toNat)
  case atStart => exact ⟨0, by omega, rfl, by omega, hE⟩
  case round =>
    clear hE
    obtain ⟨k, hk, rfl, hall, hE⟩ := hrel
    have Hall := Lib.hid hall
    clear hall
    have hbx := hb _ hE
    by_cases hlt : k < xs.length
    · have hck := hcell k _ hlt (hE0.trans hE)
      cases hs : isSetB l (nth xs k)
      · have Hs := Lib.hid (areF_no hlt hs)
        go_wp2_with (first | (go_at_call 144; refine (IsSet_any _ _ _ _ (hg _ hE)).mono ?_; rintro e w' ⟨rfl, hE'⟩; replace hE := hE.trans hE'; clear hE'))
        go_ret
        exact ⟨ret_bool Hs.out.symm, hE0.trans hE⟩
      · have Hs := Lib.hid hs
        go_wp2_with (first | (go_at_call 144; refine (IsSet_any _ _ _ _ (hg _ hE)).mono ?_; rintro e w' ⟨rfl, hE'⟩; replace hE := hE.trans hE'; clear hE'))
        go_roundw
        case rel => exact ⟨k + 1, by omega, by go_num, fun j hj => by by_cases e : j = k; (subst e; exact Hs.out); exact Hall.out j (by omega), hE⟩
        case measure => (simp [intOf]; omega)
    · have hkl : k = xs.length := by omega
      subst hkl
      go_wp2_with (first | (go_at_call 109; refine (IsGroup_any _ _ _ (hg _ hE)).mono ?_; rintro e w' ⟨rfl, hE'⟩; replace hE := hE.trans hE'; clear hE'))
      go_ret
      exact ⟨ret_bool (areF_end Hall.out).symm, hE0.trans hE⟩

/-- all elements, xs a set -/
def fullF (l : List Int) : Int := if isGrp l then ((pw (ord l) - 1 : Nat) : Int) else 0
theorem fullF_t {l : List Int} (h : isGrp l = true) : fullF l = ((pw (ord l) : Nat) : Int) - 1 := by
  unfold fullF; rw [if_pos h]; have := pw_pos (ord l); omega
theorem fullF_f {l : List Int} (h : isGrp l = false) : fullF l = 0 := by unfold fullF; rw [h]; rfl
--%call FullSet 155 ext FullSet_any _ _ _ ({0})
theorem FullSet_any (v : Value) (l : List Int) (w : World) (h : Ints w v l) :
    Calls Try.prog 155 #[.agg #[v]] w fun e w' => e = .returned (.int .i64 (fullF l)) ∧ Ext w w' := by
  have hE0 := (Ext.refl w).alloc (.cells #[v] 26)
  have hE := Ext.refl (w.alloc (.cells #[v] 26))
  have hb := box_cell w v 26
  have hg : ∀ W, Ext (w.alloc (.cells #[v] 26)) W → Ints W v l := fun W hW => h.ext (hE0.trans hW)
  clear h
  cases hs : isGrp l
  · have Hs := Lib.hid (fullF_f hs)
    go_enter Try.func155, Try.ntmps155
    go_wp2_with (first | (go_at_call 109; refine (IsGroup_any _ _ _ (hg _ hE)).mono ?_; rintro e w' ⟨rfl, hE'⟩; replace hE := hE.trans hE'; clear hE'))
    go_ret
    exact ⟨ret_int Hs.out.symm, hE0.trans hE⟩
  · have Hs := Lib.hid (fullF_t hs)
    have ho := ordF_t hs
    have hb1 := ord_bd hs
    have hp1 := pw_pos (ord l)
    have hp2 := pw_le hb1.2
    have hs1 := ishl_one (n := ord l) (by omega)
    go_enter Try.func155, Try.ntmps155
    go_wp2_with (first | (go_at_call 109; refine (IsGroup_any _ _ _ (hg _ hE)).mono ?_; rintro e w' ⟨rfl, hE'⟩; replace hE := hE.trans hE'; clear hE') | (go_at_call 108; refine (OrderOf_any _ _ _ (hg _ hE)).mono ?_; rintro e w' ⟨rfl, hE'⟩; replace hE := hE.trans hE'; clear hE'))
    go_ret
    exact ⟨ret_int Hs.out.symm, hE0.trans hE⟩
end Go.Zz

/- FormatSet of the program. -/
namespace Go.Zz
open Go.RowKit Go.Proofs
set_option maxHeartbeats 400000
set_option maxRecDepth 4000

def fsF (l : List Int) (a : Int) : ByteArray := if isSetB l a then numF (castL (elems a.toNat)) else ⟨#[]⟩
theorem fsF_no {l : List Int} {a : Int} (h : isSetB l a = false) : fsF l a = ⟨#[]⟩ := by unfold fsF; rw [h]; rfl
theorem fsF_nat {l : List Int} {n : Nat} (h : isSetB l n = true) : fsF l n = numF (castL (elems n)) := by unfold fsF; rw [h]; rfl
theorem elems_in (n i : Nat) (h : i < (castL (elems n)).length) : -1 ≤ nth (castL (elems n)) i ∧ nth (castL (elems n)) i < 1000000000000 := by
  rw [castL_len] at h
  have e : nth (castL (elems n)) i = ((elems n)[i] : Int) := by simp [nth, castL, List.getD, h]
  have := elems_lt (List.getElem_mem h)
  rw [e]; omega
--%call FormatSet 192 ext FormatSet_any _ _ _ _ ({0})
theorem FormatSet_any (v : Value) (l : List Int) (a : Int) (w : World) (h : Ints w v l) :
    Calls Try.prog 192 #[.agg #[v], .int .i64 a] w fun e w' => e = .returned (.string (fsF l a)) ∧ Ext w w' := by
  have hE0 := (Ext.refl w).alloc (.cells #[v] 26)
  have hE := Ext.refl (w.alloc (.cells #[v] 26))
  have hb := box_cell w v 26
  have hg : ∀ W, Ext (w.alloc (.cells #[v] 26)) W → Ints W v l := fun W hW => h.ext (hE0.trans hW)
  clear h
  cases hs : isSetB l a
  · have He := Lib.hid (fsF_no hs)
    go_enter Try.func192, Try.ntmps192
    go_wp2_with (first | (go_at_call 144; refine (IsSet_any _ _ _ _ (hg _ hE)).mono ?_; rintro e w' ⟨rfl, hE'⟩; replace hE := hE.trans hE'; clear hE'))
    go_ret
    exact ⟨ret_str He.out.symm, hE0.trans hE⟩
  · obtain ⟨n, rfl, -, hn, -⟩ := isSetB_nat hs
    have He := Lib.hid (fsF_nat hs)
    have hc := fun v W (hI : Ints W v (castL (elems n))) => numbers_any v (castL (elems n)) W hI (elems_in n) (by rw [castL_len]; have := elems_len n; omega)
    go_enter Try.func192, Try.ntmps192
    go_wp2_with (first | (go_at_call 144; refine (IsSet_any _ _ _ _ (hg _ hE)).mono ?_; rintro e w' ⟨rfl, hE'⟩; replace hE := hE.trans hE'; clear hE') | (go_at_call 173; refine (members_any _ (hn) _).mono ?_; rintro e w1 ⟨v1, rfl, hL, hE1⟩; obtain ⟨aoL, cL, adrL, rfl, hadrL, hcellL⟩ := hL.ints.nats; have hixL := ints_index (c := cL) elI szI hadrL; clear hadrL) | (go_at_call 132; refine (hc _ _ hL.ints).mono ?_; rintro e w2 ⟨rfl, hE2⟩))
    go_ret
    exact ⟨ret_str He.out.symm, ((hE0.trans hE).trans hE1).trans hE2⟩
end Go.Zz

/- Coverings, small doubling, sizes of intersections. -/
namespace Go.Zz
open Go.RowKit Go.Proofs
set_option maxHeartbeats 400000

theorem ints_two (w : World) (a b : Int) (T : TypeId) : Ints (w.alloc (.cells #[.int .i64 a, .int .i64 b] T)) (.slice (some ⟨w.heap.size, 0, none⟩) 2 2) [a, b] := by
  refine ⟨_, 2, rfl, Nat.le_refl _, by simp, fun i hi => ⟨_, rfl, ?_⟩⟩
  match i, hi with
  | 0, _ => simp [go_sem, nth, Addr.add]
  | 1, _ => simp [go_sem, nth, Addr.add]
theorem areF_two (l : List Int) (a b : Int) : areF l [a, b] = (isSetB l a && isSetB l b) := by
  unfold areF
  cases h : isSetB l a
  · simp [h]
  · simp [h, isSetB_grp h]
--%call areSetsV 158 ext areSets_val _ _ _ _ _ ({0}) ({1}) ({2})
theorem areSets_val (v u : Value) (l xs : List Int) (w : World) (h : Ints w v l) (k : Ints w u xs) {b : Bool} (hb : areF l xs = b) :
    Calls Try.prog 158 #[.agg #[v], u] w fun e w' => e = .returned (.bool b) ∧ Ext w w' := by
  subst hb; exact areSets_any v u l xs w h k
/-- whether the shifts of a by x fill the group -/
def covF (l : List Int) (a x : Int) : Bool := isSetB l a && isSetB l x && decide ((sumF l a.toNat x.toNat : Int) = fullF l)
theorem covF_no {l : List Int} {a x : Int} (h : (isSetB l a && isSetB l x) = false) : covF l a x = false := by unfold covF; rw [h]; rfl
theorem covF_yes {l : List Int} {a x : Nat} (h : (isSetB l a && isSetB l x) = true) : covF l a x = ((sumF l a x : Int) == fullF l) := by
  unfold covF; rw [h, Bool.eq_iff_iff]; simp
set_option maxHeartbeats 4000000 in
--%call IsCovering 63 ext IsCovering_any _ _ _ _ _ ({0})
theorem IsCovering_any (v : Value) (l : List Int) (a x : Int) (w : World) (h : Ints w v l) :
    Calls Try.prog 63 #[.agg #[v], .int .i64 a, .int .i64 x] w fun e w' => e = .returned (.bool (covF l a x)) ∧ Ext w w' := by
  obtain ⟨wb, hwb⟩ : ∃ wb, wb = w.alloc (.cells #[v] 26) := ⟨_, rfl⟩
  have hE0 := (Ext.refl w).alloc (.cells #[v] 26)
  have hb := box_cell w v 26
  rw [← hwb] at hE0 hb
  have hg : ∀ W, Ext wb W → Ints W v l := fun W hW => h.ext (hE0.trans hW)
  have hE := Ext.refl wb
  have Hwb := Lib.hid hwb
  clear hwb h
  have har := areF_two l a x
  cases hs : (isSetB l a && isSetB l x)
  · have Hs := Lib.hid (covF_no hs)
    rw [hs] at har
    clear hs
    go_enter Try.func63, Try.ntmps63
    go_wp2_with fail
    rw [← Hwb.out]
    have hbx := hb wb hE
    have hlt : w.heap.size < wb.heap.size := by rw [Hwb.out]; simp [go_sem]
    first | (go_region_with (go_at_call 158; (with_reducible refine Calls.mono (areSets_val _ _ _ _ _ (hg _ (by repeat (first | assumption | exact Ext.refl _ | (apply And.left; assumption) | apply Ext.drew | apply Ext.alloc))) ((ints_two _ _ _ _).ext (by repeat (first | assumption | exact Ext.refl _ | (apply And.left; assumption) | apply Ext.drew | apply Ext.alloc))) har) ?_); rintro e w1 ⟨rfl, hX⟩; replace hX := Ext.trans (a := wb) (by repeat (first | assumption | exact Ext.refl _ | (apply And.left; assumption) | apply Ext.drew | apply Ext.alloc)) hX)) | (fail "the region")
    all_goals (go_wp2_with fail; go_ret; exact ⟨ret_bool Hs.out.symm, hE0.trans (by repeat (first | assumption | exact Ext.refl _ | (apply And.left; assumption) | apply Ext.drew | apply Ext.alloc))⟩)
  · obtain ⟨ha, hx⟩ := Bool.and_eq_true_iff.1 hs
    obtain ⟨a, rfl, -, ha, hgr⟩ := isSetB_nat ha
    obtain ⟨x, rfl, -, hx, -⟩ := isSetB_nat hx
    have Hs := Lib.hid (covF_yes hs)
    rw [hs] at har
    have Hgr := Lib.hid hgr
    clear hs hgr
    cases hq : ((sumF l a x : Int) == fullF l)
    all_goals
      go_enter Try.func63, Try.ntmps63
      go_wp2_with fail
      rw [← Hwb.out]
      have hD := (Ext.refl (wb)).drew
      first | (go_region_held3 (fun W => Ext (wb) W ∧ W.cell? ⟨w.heap.size, 0, none⟩ = some v) (exact ⟨(by repeat (first | assumption | exact Ext.refl _ | (apply And.left; assumption) | apply Ext.drew | apply Ext.alloc)), hb _ (by repeat (first | assumption | exact Ext.refl _ | (apply And.left; assumption) | apply Ext.drew | apply Ext.alloc))⟩) (first | (go_at_call 158; ((with_reducible refine Calls.mono (areSets_val _ _ _ _ _ (hg _ (by repeat (first | assumption | exact Ext.refl _ | (apply And.left; assumption) | apply Ext.drew | apply Ext.alloc))) ((ints_two _ _ _ _).ext (by repeat (first | assumption | exact Ext.refl _ | (apply And.left; assumption) | apply Ext.drew | apply Ext.alloc))) har) ?_); rintro e wH0 ⟨rfl, hX0⟩; have hH0 := Ext.trans (a := wb) (by repeat (first | assumption | exact Ext.refl _ | (apply And.left; assumption) | apply Ext.drew | apply Ext.alloc)) hX0)) | (go_at_call 113; ((with_reducible refine Calls.mono (sum_any _ _ _ _ _ (hg _ (by repeat (first | assumption | exact Ext.refl _ | (apply And.left; assumption) | apply Ext.drew | apply Ext.alloc))) Hgr ha hx) ?_); rintro e wH1 ⟨rfl, hX1⟩; have hH1 := Ext.trans (a := wb) (by repeat (first | assumption | exact Ext.refl _ | (apply And.left; assumption) | apply Ext.drew | apply Ext.alloc)) hX1)) | (go_at_call 155; ((with_reducible refine Calls.mono (FullSet_any _ _ _ (hg _ (by repeat (first | assumption | exact Ext.refl _ | (apply And.left; assumption) | apply Ext.drew | apply Ext.alloc)))) ?_); rintro e wH2 ⟨rfl, hX2⟩; have hH2 := Ext.trans (a := wb) (by repeat (first | assumption | exact Ext.refl _ | (apply And.left; assumption) | apply Ext.drew | apply Ext.alloc)) hX2)))) | (fail "the region with calls")
      all_goals (go_wp2_with fail; go_ret; exact ⟨ret_bool (by rw [Hs.out, hq]), hE0.trans (by repeat (first | assumption | exact Ext.refl _ | (apply And.left; assumption) | apply Ext.drew | apply Ext.alloc))⟩)
end Go.Zz

/- Coverings (the reference), small doubling, sizes of intersections. -/
namespace Go.Zz
open Go.RowKit Go.Proofs
set_option maxHeartbeats 400000
--%call IsSetV 144 ext IsSet_val _ _ _ _ ({0}) ({1})
theorem IsSet_val (v : Value) (l : List Int) (a : Int) (w : World) (h : Ints w v l) {b : Bool} (hb : isSetB l a = b) :
    Calls Try.prog 144 #[.agg #[v], .int .i64 a] w fun e w' => e = .returned (.bool b) ∧ Ext w w' := by
  subst hb; exact IsSet_any v l a w h
--%call sIsSetV 119 ext sIsSet_val _ _ _ _ ({0}) ({1})
theorem sIsSet_val (v : Value) (l : List Int) (a : Int) (w : World) (h : Ints w v l) {b : Bool} (hb : isSetB l a = b) :
    Calls Try.prog 119 #[.agg #[v], .int .i64 a] w fun e w' => e = .returned (.bool b) ∧ Ext w w' := by
  subst hb; exact sIsSet_any v l a w h



--%call sIsCovering 74 ext sIsCovering_any _ _ _ _ _ ({0})
theorem sIsCovering_any (v : Value) (l : List Int) (a x : Int) (w : World) (h : Ints w v l) :
    Calls Try.prog 74 #[.agg #[v], .int .i64 a, .int .i64 x] w fun e w' => e = .returned (.bool (covF l a x)) ∧ Ext w w' := by
  obtain ⟨wb, hwb⟩ : ∃ wb, wb = w.alloc (.cells #[v] 26) := ⟨_, rfl⟩
  have hE0 := (Ext.refl w).alloc (.cells #[v] 26)
  have hb := box_cell w v 26
  rw [← hwb] at hE0 hb
  have hg : ∀ W, Ext wb W → Ints W v l := fun W hW => h.ext (hE0.trans hW)
  have hE := Ext.refl wb
  have Hsz : Hid (w.heap.size + 1 = wb.heap.size) := Lib.hid (by rw [hwb]; simp [go_sem])
  have Hwb := Lib.hid hwb
  clear hwb h
  have hbx := fun U => hb _ (lat_ext wb U)
  cases hs1 : isSetB l a
  · have Hs := Lib.hid (covF_no (l := l) (a := a) (x := x) (by rw [hs1]; rfl))
    go_enter Try.func74, Try.ntmps74
    go_wp2_with fail
    rw [← Hwb.out]
    (refine wp_region_lat (wb) (by kernel_rfl) (by kernel_rfl) hE ?_); (repeat (go_big_quiet_step (first | (go_at_call 119; exact Calls.lat (sIsSet_val _ _ _ _ (hg _ (lat_ext wb _)) (hs1)))))); (refine wpQuiet_nil ?_); (intro W hE'); (replace hE := lat_of hE'); (clear hE')
    go_wp2_with fail
    go_ret
    exact ⟨ret_bool Hs.out.symm, hE0.trans hE⟩
  · cases hs2 : isSetB l x
    · have Hs := Lib.hid (covF_no (l := l) (a := a) (x := x) (by rw [hs2]; simp))
      go_enter Try.func74, Try.ntmps74
      go_wp2_with fail
      rw [← Hwb.out]
      (refine wp_region_lat (wb) (by kernel_rfl) (by kernel_rfl) hE ?_); (repeat (go_big_quiet_step (first | (go_at_call 119; first | with_reducible exact Calls.lat (sIsSet_val _ _ a _ (hg _ (lat_ext wb _)) hs1) | with_reducible exact Calls.lat (sIsSet_val _ _ x _ (hg _ (lat_ext wb _)) hs2))))); (refine wpQuiet_nil ?_); (intro W hE'); (replace hE := lat_of hE'); (clear hE')
      go_wp2_with fail
      go_ret
      exact ⟨ret_bool Hs.out.symm, hE0.trans hE⟩
    · obtain ⟨a, rfl, -, ha, hgr⟩ := isSetB_nat hs1
      obtain ⟨x, rfl, -, hx, -⟩ := isSetB_nat hs2
      have Hs := Lib.hid (covF_yes (l := l) (a := a) (x := x) (by rw [hs1, hs2]; rfl))
      have Hf := Lib.hid (fullF_t hgr)
      have Hgr := Lib.hid hgr
      have hb1 := ord_bd hgr
      have hp1 := pw_pos (ord l)
      have hp2 := pw_le hb1.2
      have hs3 := ishl_one (n := ord l) (by omega)
      clear hgr
      go_enter Try.func74, Try.ntmps74
      go_wp2_with fail
      rw [← Hwb.out]
      (refine wp_region_lat (wb) (by kernel_rfl) (by kernel_rfl) hE ?_); (repeat (go_big_quiet_step (first | (go_at_call 119; first | with_reducible exact Calls.lat (sIsSet_val _ _ (a : Int) _ (hg _ (lat_ext wb _)) hs1) | with_reducible exact Calls.lat (sIsSet_val _ _ (x : Int) _ (hg _ (lat_ext wb _)) hs2)) | (go_at_call 118; exact Calls.lat (l4Sum_any _ _ _ _ _ (hg _ (lat_ext wb _)) (Hgr) (ha) (hx))) | (go_at_call 115; exact Calls.lat (l2Order_any _ _ _ (hg _ (lat_ext wb _)) (Hgr)))))); (refine wpQuiet_nil ?_); (intro W hE'); (replace hE := lat_of hE'); (clear hE')
      go_wp2_with fail
      go_ret
      exact ⟨ret_bool (by rw [Hs.out, Hf.out]), hE0.trans hE⟩

/-- whether twice the size of a + a is less than three times that of a -/
def smallF (l : List Int) (a : Int) : Bool := isSetB l a && decide (a ≠ 0) && decide (2 * cnt (sumF l a.toNat a.toNat) < 3 * cnt a.toNat)
theorem smallF_no {l : List Int} {a : Int} (h : isSetB l a = false) : smallF l a = false := by unfold smallF; rw [h]; rfl
theorem smallF_zero (l : List Int) : smallF l 0 = false := by unfold smallF; simp
theorem smallF_yes {l : List Int} {n : Nat} (h : isSetB l n = true) (h0 : 0 < n) : smallF l n = decide (2 * (cnt (sumF l n n) : Int) < 3 * (cnt n : Int)) := by
  unfold smallF
  rw [h, Bool.eq_iff_iff]
  simp
  omega

/-- the sizes of the intersections of a with the shifts of b -/
def interTo (l : List Int) (a b k : Nat) : List Int := castL ((List.range k).map (fun x => cnt (a &&& shiftF l b x)))
def interF (l : List Int) (a b : Int) : List Int := if isSetB l a && isSetB l b then interTo l a.toNat b.toNat (ord l) else []
theorem interTo_zero (l : List Int) (a b : Nat) : interTo l a b 0 = [] := rfl
theorem interTo_succ (l : List Int) (a b k : Nat) : interTo l a b (k + 1) = interTo l a b k ++ [(cnt (a &&& shiftF l b k) : Int)] := by
  unfold interTo; rw [List.range_succ, List.map_append]; exact castL_snoc _ _
theorem interTo_len (l : List Int) (a b k : Nat) : (interTo l a b k).length = k := by simp [interTo, castL]
theorem interF_no {l : List Int} {a b : Int} (h : (isSetB l a && isSetB l b) = false) : interF l a b = [] := by unfold interF; rw [h]; rfl
theorem interF_yes {l : List Int} {a b : Nat} (h : (isSetB l a && isSetB l b) = true) : interF l a b = interTo l a b (ord l) := by unfold interF; rw [h]; rfl
theorem IntersectionSizes_any (v : Value) (l : List Int) (a b : Int) (w : World) (h : Ints w v l) :
    Calls Try.prog 69 #[.agg #[v], .int .i64 a, .int .i64 b] w fun e w' => ∃ u, e = .returned u ∧ Own 3 w w' u (interF l a b) ∧ Ext w w' := by
  obtain ⟨wb, hwb⟩ : ∃ wb, wb = w.alloc (.cells #[v] 26) := ⟨_, rfl⟩
  have hE0 := (Ext.refl w).alloc (.cells #[v] 26)
  have hb := box_cell w v 26
  rw [← hwb] at hE0 hb
  have hg : ∀ W, Ext wb W → Ints W v l := fun W hW => h.ext (hE0.trans hW)
  have hE := Ext.refl wb
  have Hsz : Hid (w.heap.size + 1 = wb.heap.size) := Lib.hid (by rw [hwb]; simp [go_sem])
  have Hwb := Lib.hid hwb
  clear hwb h
  obtain ⟨wc, hwc⟩ : ∃ wc, wc = wb.alloc (.cells #[] 3) := ⟨_, rfl⟩
  have hO : Own 3 wb wc (.slice (some ⟨wb.heap.size, 0, none⟩) 0 0) [] := by rw [hwc]; exact own_made (by omega) hE [] rfl
  replace hE : Ext wb wc := by rw [hwc]; exact hE.alloc _
  have Hsz2 : Hid (wb.heap.size + 1 = wc.heap.size) := Lib.hid (by rw [hwc]; simp [go_sem])
  have Hwc := Lib.hid hwc
  clear hwc
  have har := areF_two l a b
  cases hs : (isSetB l a && isSetB l b)
  · have Hs := Lib.hid (interF_no hs)
    rw [hs] at har
    clear hs
    go_enter Try.func69, Try.ntmps69
    go_wp2_with fail
    rw [← Hwb.out, ← Hwc.out]; rw [Hsz.out]; try rw [Hsz2.out]
    go_wp2_with (first | (go_at_call 158; refine Calls.mono (areSets_val _ _ _ _ _ (hg _ (by repeat (first | assumption | exact Ext.refl _ | (apply And.left; assumption) | apply Ext.drew | apply Ext.alloc))) (ints_two _ _ _ _) har) ?_; rintro e w' ⟨rfl, hE'⟩; replace hO := hO.ext (Ext.trans (by repeat (first | assumption | exact Ext.refl _ | (apply And.left; assumption) | apply Ext.drew | apply Ext.alloc)) hE'); replace hE := hE.trans (Ext.trans (by repeat (first | assumption | exact Ext.refl _ | (apply And.left; assumption) | apply Ext.drew | apply Ext.alloc)) hE'); clear hE'))
    go_ret
    exact ⟨_, rfl, by rw [Hs.out]; exact hO.mono hE0, hE0.trans hE⟩
  · obtain ⟨h1, h2⟩ := Bool.and_eq_true_iff.1 hs
    obtain ⟨a, rfl, -, ha, hgr⟩ := isSetB_nat h1
    obtain ⟨b, rfl, -, hb', -⟩ := isSetB_nat h2
    have Hs := Lib.hid (interF_yes hs)
    rw [hs] at har
    have Hgr := Lib.hid hgr
    have hord := ordF_t hgr
    have hob := ord_bd hgr
    clear hs hgr h1 h2
    go_enter Try.func69, Try.ntmps69
    go_wp2_with fail
    rw [← Hwb.out, ← Hwc.out]; rw [Hsz.out]; try rw [Hsz2.out]
    go_wp2_with (first | (go_at_call 158; refine Calls.mono (areSets_val _ _ _ _ _ (hg _ (by repeat (first | assumption | exact Ext.refl _ | (apply And.left; assumption) | apply Ext.drew | apply Ext.alloc))) (ints_two _ _ _ _) har) ?_; rintro e w' ⟨rfl, hE'⟩; replace hO := hO.ext (Ext.trans (by repeat (first | assumption | exact Ext.refl _ | (apply And.left; assumption) | apply Ext.drew | apply Ext.alloc)) hE'); replace hE := hE.trans (Ext.trans (by repeat (first | assumption | exact Ext.refl _ | (apply And.left; assumption) | apply Ext.drew | apply Ext.alloc)) hE'); clear hE') | (go_at_call 108; refine (OrderOf_any _ _ _ (hg _ hE)).mono ?_; rintro e w' ⟨rfl, hE'⟩; replace hO := hO.ext (Ext.trans (by repeat (first | assumption | exact Ext.refl _ | (apply And.left; assumption) | apply Ext.drew | apply Ext.alloc)) hE'); replace hE := hE.trans (Ext.trans (by repeat (first | assumption | exact Ext.refl _ | (apply And.left; assumption) | apply Ext.drew | apply Ext.alloc)) hE'); clear hE'))
    go_loopw [7, 19] (fun u x wr => ∃ k : Nat, k ≤ ord l ∧ x = .int .i64 k ∧ Own 3 wb wr u (interTo l a b k) ∧ Ext wb wr) (fun _ x _ => ord l - (intOf x).toNat)
    case atStart => exact ⟨0, by omega, rfl, hO, hE⟩
    case round =>
      clear hE hO
      obtain ⟨k, hk, rfl, hO, hE⟩ := hrel
      have hbx := hb _ hE
      by_cases hlt : k < ord l
      · have hln : (interTo l a b k).length ≤ 24 := by rw [interTo_len]; omega
        have hsb := shiftF_bd Hgr.out b k
        have hand := iand_nat (a := a) (b := shiftF l b k) (by omega) (by omega)
        have hcb : a &&& shiftF l b k < 2 ^ 24 := Nat.and_lt_two_pow _ hsb
        have Hn := Lib.hid (interTo_succ l a b k)
        go_wp2_with (first | (go_at_call 157; refine (shift_any _ _ _ _ _ (hg _ hE) (Hgr) (hb') ((by omega))).mono ?_; rintro e w' ⟨rfl, hE'⟩; replace hO := hO.ext (Ext.trans (by repeat (first | assumption | exact Ext.refl _ | (apply And.left; assumption) | apply Ext.drew | apply Ext.alloc)) hE'); replace hE := hE.trans (Ext.trans (by repeat (first | assumption | exact Ext.refl _ | (apply And.left; assumption) | apply Ext.drew | apply Ext.alloc)) hE'); clear hE') | (go_at_call 112; refine (bits_any _ (hcb) _).mono ?_; rintro e w' ⟨rfl, rfl⟩) | (at_builtin; refine wp_append1 slI rfl _ _ rfl wb _ _ _ _ hO hE (by omega) rfl rfl ?_; intro v1 w1 hO1 hE1))
        go_roundw
        case rel => exact ⟨k + 1, by omega, by go_num, by rw [Hn.out]; exact hO1, hE1⟩
        case measure => (simp [intOf]; omega)
      · have hkl : k = ord l := by omega
        subst hkl
        go_wp2_with fail
        go_ret
        exact ⟨_, rfl, by rw [Hs.out]; exact hO.mono hE0, hE0.trans hE⟩
theorem sIntersectionSizes_any (v : Value) (l : List Int) (a b : Int) (w : World) (h : Ints w v l) :
    Calls Try.prog 71 #[.agg #[v], .int .i64 a, .int .i64 b] w fun e w' => ∃ u, e = .returned u ∧ Own 3 w w' u (interF l a b) ∧ Ext w w' := by
  obtain ⟨wb, hwb⟩ : ∃ wb, wb = w.alloc (.cells #[v] 26) := ⟨_, rfl⟩
  have hE0 := (Ext.refl w).alloc (.cells #[v] 26)
  have hb := box_cell w v 26
  rw [← hwb] at hE0 hb
  have hg : ∀ W, Ext wb W → Ints W v l := fun W hW => h.ext (hE0.trans hW)
  have hE := Ext.refl wb
  have Hsz : Hid (w.heap.size + 1 = wb.heap.size) := Lib.hid (by rw [hwb]; simp [go_sem])
  have Hwb := Lib.hid hwb
  clear hwb h
  obtain ⟨wc, hwc⟩ : ∃ wc, wc = wb.alloc (.cells #[] 3) := ⟨_, rfl⟩
  have hO : Own 3 wb wc (.slice (some ⟨wb.heap.size, 0, none⟩) 0 0) [] := by rw [hwc]; exact own_made (by omega) hE [] rfl
  replace hE : Ext wb wc := by rw [hwc]; exact hE.alloc _
  have Hsz2 : Hid (wb.heap.size + 1 = wc.heap.size) := Lib.hid (by rw [hwc]; simp [go_sem])
  have Hwc := Lib.hid hwc
  clear hwc
  cases hs : (isSetB l a && isSetB l b)
  · have Hs := Lib.hid (interF_no hs)
    cases h1 : isSetB l a
    · go_enter Try.func71, Try.ntmps71
      go_wp2_with fail
      rw [← Hwb.out, ← Hwc.out]; rw [Hsz.out]; try rw [Hsz2.out]
      go_wp2_with (first | (go_at_call 119; refine Calls.mono (sIsSet_val _ _ _ _ (hg _ (by repeat (first | assumption | exact Ext.refl _ | (apply And.left; assumption) | apply Ext.drew | apply Ext.alloc))) h1) ?_; rintro e w' ⟨rfl, hE'⟩; replace hO := hO.ext (Ext.trans (by repeat (first | assumption | exact Ext.refl _ | (apply And.left; assumption) | apply Ext.drew | apply Ext.alloc)) hE'); replace hE := hE.trans (Ext.trans (by repeat (first | assumption | exact Ext.refl _ | (apply And.left; assumption) | apply Ext.drew | apply Ext.alloc)) hE'); clear hE'))
      go_ret
      exact ⟨_, rfl, by rw [Hs.out]; exact hO.mono hE0, hE0.trans hE⟩
    · have h2 : isSetB l b = false := by simpa [h1] using hs
      clear hs
      go_enter Try.func71, Try.ntmps71
      go_wp2_with fail
      rw [← Hwb.out, ← Hwc.out]; rw [Hsz.out]; try rw [Hsz2.out]
      go_wp2_with (first | (go_at_call 119; (first | (with_reducible refine Calls.mono (sIsSet_val _ _ a _ (hg _ (by repeat (first | assumption | exact Ext.refl _ | (apply And.left; assumption) | apply Ext.drew | apply Ext.alloc))) h1) ?_) | (with_reducible refine Calls.mono (sIsSet_val _ _ b _ (hg _ (by repeat (first | assumption | exact Ext.refl _ | (apply And.left; assumption) | apply Ext.drew | apply Ext.alloc))) h2) ?_)); rintro e w' ⟨rfl, hE'⟩; replace hO := hO.ext (Ext.trans (by repeat (first | assumption | exact Ext.refl _ | (apply And.left; assumption) | apply Ext.drew | apply Ext.alloc)) hE'); replace hE := hE.trans (Ext.trans (by repeat (first | assumption | exact Ext.refl _ | (apply And.left; assumption) | apply Ext.drew | apply Ext.alloc)) hE'); clear hE'))
      go_ret
      exact ⟨_, rfl, by rw [Hs.out]; exact hO.mono hE0, hE0.trans hE⟩
  · obtain ⟨h1, h2⟩ := Bool.and_eq_true_iff.1 hs
    obtain ⟨a, rfl, -, ha, hgr⟩ := isSetB_nat h1
    obtain ⟨b, rfl, -, hb', -⟩ := isSetB_nat h2
    have Hs := Lib.hid (interF_yes hs)
    have Hgr := Lib.hid hgr
    have hob := ord_bd hgr
    clear hs hgr
    go_enter Try.func71, Try.ntmps71
    go_wp2_with fail
    rw [← Hwb.out, ← Hwc.out]; rw [Hsz.out]; try rw [Hsz2.out]
    go_wp2_with (first | (go_at_call 119; (first | (with_reducible refine Calls.mono (sIsSet_val _ _ (a : Int) _ (hg _ (by repeat (first | assumption | exact Ext.refl _ | (apply And.left; assumption) | apply Ext.drew | apply Ext.alloc))) h1) ?_) | (with_reducible refine Calls.mono (sIsSet_val _ _ (b : Int) _ (hg _ (by repeat (first | assumption | exact Ext.refl _ | (apply And.left; assumption) | apply Ext.drew | apply Ext.alloc))) h2) ?_)); rintro e w' ⟨rfl, hE'⟩; replace hO := hO.ext (Ext.trans (by repeat (first | assumption | exact Ext.refl _ | (apply And.left; assumption) | apply Ext.drew | apply Ext.alloc)) hE'); replace hE := hE.trans (Ext.trans (by repeat (first | assumption | exact Ext.refl _ | (apply And.left; assumption) | apply Ext.drew | apply Ext.alloc)) hE'); clear hE'))
    clear h1 h2
    go_loopw [7, 8] (fun u x wr => ∃ k : Nat, k ≤ ord l ∧ x = .int .i64 k ∧ Own 3 wb wr u (interTo l a b k) ∧ Ext wb wr) (fun _ x _ => ord l - (intOf x).toNat)
    case atStart => exact ⟨0, by omega, rfl, hO, hE⟩
    case round =>
      clear hE hO
      obtain ⟨k, hk, rfl, hO, hE⟩ := hrel
      have hbx := hb _ hE
      by_cases hlt : k < ord l
      · have hln : (interTo l a b k).length ≤ 24 := by rw [interTo_len]; omega
        have hsb := shiftF_bd Hgr.out b k
        have hand := iand_nat (a := a) (b := shiftF l b k) (by omega) (by omega)
        have hcb : a &&& shiftF l b k < 2 ^ 24 := Nat.and_lt_two_pow _ hsb
        have Hn := Lib.hid (interTo_succ l a b k)
        go_wp2_with (first | (go_at_call 115; refine (l2Order_any _ _ _ (hg _ hE) (Hgr)).mono ?_; rintro e w' ⟨rfl, hE'⟩; replace hO := hO.ext (Ext.trans (by repeat (first | assumption | exact Ext.refl _ | (apply And.left; assumption) | apply Ext.drew | apply Ext.alloc)) hE'); replace hE := hE.trans (Ext.trans (by repeat (first | assumption | exact Ext.refl _ | (apply And.left; assumption) | apply Ext.drew | apply Ext.alloc)) hE'); clear hE') | (go_at_call 160; refine (l3Shift_any _ _ _ _ _ (hg _ hE) (Hgr) (hb') ((by omega))).mono ?_; rintro e w' ⟨rfl, hE'⟩; replace hO := hO.ext (Ext.trans (by repeat (first | assumption | exact Ext.refl _ | (apply And.left; assumption) | apply Ext.drew | apply Ext.alloc)) hE'); replace hE := hE.trans (Ext.trans (by repeat (first | assumption | exact Ext.refl _ | (apply And.left; assumption) | apply Ext.drew | apply Ext.alloc)) hE'); clear hE') | (go_at_call 117; refine (l3Bits_any _ (hcb) _).mono ?_; rintro e w' ⟨rfl, rfl⟩) | (at_builtin; refine wp_append1 slI rfl _ _ rfl wb _ _ _ _ hO hE (by omega) rfl rfl ?_; intro v1 w1 hO1 hE1))
        go_roundw
        case rel => exact ⟨k + 1, by omega, by go_num, by rw [Hn.out]; exact hO1, hE1⟩
        case measure => (simp [intOf]; omega)
      · have hkl : k = ord l := by omega
        subst hkl
        go_wp2_with (first | (go_at_call 115; refine (l2Order_any _ _ _ (hg _ hE) (Hgr)).mono ?_; rintro e w' ⟨rfl, hE'⟩; replace hO := hO.ext (Ext.trans (by repeat (first | assumption | exact Ext.refl _ | (apply And.left; assumption) | apply Ext.drew | apply Ext.alloc)) hE'); replace hE := hE.trans (Ext.trans (by repeat (first | assumption | exact Ext.refl _ | (apply And.left; assumption) | apply Ext.drew | apply Ext.alloc)) hE'); clear hE'))
        go_ret
        exact ⟨_, rfl, by rw [Hs.out]; exact hO.mono hE0, hE0.trans hE⟩
end Go.Zz

/- ListOf of both. -/
namespace Go.Zz
open Go.RowKit Go.Proofs
set_option maxHeartbeats 400000
set_option maxRecDepth 4000

def loF (l : List Int) (a : Int) : List Int := if isSetB l a then castL (elems a.toNat) else []
theorem loF_no {l : List Int} {a : Int} (h : isSetB l a = false) : loF l a = [] := by unfold loF; rw [h]; rfl
theorem loF_nat {l : List Int} {n : Nat} (h : isSetB l n = true) : loF l n = castL (elems n) := by unfold loF; rw [h]; rfl
theorem sListOf_any (v : Value) (l : List Int) (a : Int) (w : World) (h : Ints w v l) :
    Calls Try.prog 232 #[.agg #[v], .int .i64 a] w fun e w' => ∃ u, e = .returned u ∧ Own 3 w w' u (loF l a) ∧ Ext w w' := by
  have hE0 := (Ext.refl w).alloc (.cells #[v] 26)
  have hE := Ext.refl (w.alloc (.cells #[v] 26))
  have hb := box_cell w v 26
  have hg : ∀ W, Ext (w.alloc (.cells #[v] 26)) W → Ints W v l := fun W hW => h.ext (hE0.trans hW)
  clear h
  cases hs : isSetB l a
  · have He := Lib.hid (loF_no hs)
    go_enter Try.func232, Try.ntmps232
    go_wp2_with (first | (go_at_call 119; refine (sIsSet_any _ _ _ _ (hg _ hE)).mono ?_; rintro e w' ⟨rfl, hE'⟩; replace hE := hE.trans hE'; clear hE'))
    go_ret
    have hE2 := hE0.trans hE
    exact ⟨_, rfl, by rw [He.out]; exact own_made (TI := 3) (n := 0) (by omega) hE2 [] rfl, hE2.alloc _⟩
  · obtain ⟨n, rfl, -, hn, -⟩ := isSetB_nat hs
    have He := Lib.hid (loF_nat hs)
    go_enter Try.func232, Try.ntmps232
    go_wp2_with (first | (go_at_call 119; refine (sIsSet_any _ _ _ _ (hg _ hE)).mono ?_; rintro e w' ⟨rfl, hE'⟩; replace hE := hE.trans hE'; clear hE') | (go_at_call 174; refine (l3List_any _ (hn) _).mono ?_; rintro e w1 ⟨v1, rfl, hL, hE1⟩; obtain ⟨aoL, cL, adrL, rfl, hadrL, hcellL⟩ := hL.ints.nats; have hixL := ints_index (c := cL) elI szI hadrL; clear hadrL))
    go_ret
    have hE2 := hE0.trans hE
    exact ⟨_, rfl, by rw [He.out]; simpa [castL_len] using hL.mono hE2, hE2.trans hE1⟩
end Go.Zz

/- ListOf and FormatSet of the reference. -/
namespace Go.Zz
open Go.RowKit Go.Proofs
set_option maxHeartbeats 400000
set_option maxRecDepth 4000

theorem loF_in (l : List Int) (a : Int) (i : Nat) (h : i < (loF l a).length) : -1 ≤ nth (loF l a) i ∧ nth (loF l a) i < 1000000000000 := by
  cases hs : isSetB l a
  · rw [loF_no hs] at h; simp at h
  · obtain ⟨n, rfl, -, hn, -⟩ := isSetB_nat hs
    rw [loF_nat hs] at h ⊢
    exact elems_in n i h
theorem loF_len (l : List Int) (a : Int) : (loF l a).length ≤ 24 := by
  unfold loF
  split
  · rw [castL_len]; exact elems_len _
  · simp
theorem fsF_lo (l : List Int) (a : Int) : fsF l a = if (loF l a).length = 0 then (if isSetB l a then ⟨#[110, 111, 110, 101]⟩ else ⟨#[]⟩) else jn comma (fun i => fmtB (nth (loF l a) i)) (loF l a).length := by
  cases hs : isSetB l a
  · rw [fsF_no hs, loF_no hs]; rfl
  · unfold fsF loF
    rw [hs]
    show numF _ = _
    unfold numF
    rfl
theorem sFormatSet_any (v : Value) (l : List Int) (a : Int) (w : World) (h : Ints w v l) :
    Calls Try.prog 182 #[.agg #[v], .int .i64 a] w fun e w' => e = .returned (.string (fsF l a)) ∧ Ext w w' := by
  have hE0 := (Ext.refl w).alloc (.cells #[v] 26)
  have hE := Ext.refl (w.alloc (.cells #[v] 26))
  have hb := box_cell w v 26
  have hg : ∀ W, Ext (w.alloc (.cells #[v] 26)) W → Ints W v l := fun W hW => h.ext (hE0.trans hW)
  clear h
  have hin := loF_in l a
  have hlen := loF_len l a
  have Hf := Lib.hid (fsF_lo l a)
  have Hin := Lib.hid hin
  clear hin
  have hc := fun W (hI : Ints W v l) => sListOf_any v l a W hI
  go_enter Try.func182, Try.ntmps182
  go_wp2_with (go_at_call 232; refine (hc _ (hg _ hE)).mono ?_; rintro e w1 ⟨u, rfl, hO, hE1⟩; obtain ⟨aoL, cL, adrL, rfl, hlenL, hadrL, hcellL⟩ := hO.ints.op; have hixL := ints_index (c := cL) elI szI hadrL)
  clear hadrL hO
  obtain ⟨m, hm⟩ : ∃ m, m = loF l a := ⟨_, rfl⟩
  rw [← hm] at hlen hlenL hcellL hixL Hf Hin ⊢
  clear hm
  go_loopw [5, 7] (fun s i wr => ∃ (k : Nat) (t : ByteArray), k ≤ m.length ∧ i = .int .i64 k ∧ s = .string t ∧ Hid (t = jn comma (fun i => fmtB (nth m i)) k) ∧ Ext w1 wr) (fun _ i _ => m.length - (intOf i).toNat)
  case atStart => exact ⟨0, _, by omega, rfl, rfl, Lib.hid rfl, Ext.refl _⟩
  case round =>
    obtain ⟨k, t, hk, rfl, rfl, Ht, hEr⟩ := hrel
    have hts : t.size ≤ 14 * k := by rw [Ht.out]; exact jn_size _ _ (by decide) k fun i hi => fmtB_size (Hin.out i (by omega))
    by_cases hlt : k < m.length
    · have hck := hcellL k _ hlt hEr
      have hcF := sFormatInt_any (nth m k) (Hin.out k hlt)
      have hsz : (fmtB (nth m k)).size ≤ 13 := fmtB_size (Hin.out k hlt)
      obtain ⟨u, hu⟩ : ∃ u, u = fmtB (nth m k) := ⟨_, rfl⟩
      rw [← hu] at hsz hcF
      have He := Lib.hid hu
      clear hu
      by_cases hk0 : 0 < k
      · have hk1 : (0:Int) < k := by omega
        go_wp2_with (refine (hcF _).mono ?_; rintro e w2 ⟨rfl, hE2⟩)
        go_roundw
        case rel => exact ⟨k + 1, _, by omega, by go_num, rfl, Lib.hid (by rw [jn_next _ _ hk0, ← Ht.out, He.out]; rfl), hEr.trans hE2⟩
        case measure => (simp [intOf]; omega)
      · have hk1 : k = 0 := by omega
        subst hk1
        have hix0 : ∀ W, (Instr.indexAt 24 (.slice aoL m.length cL) (.int .i64 0)).run Try.prog W = .ok (.pointer (some (adrL 0))) W := fun W => by simpa using hixL 0 W hlt
        go_wp2_with (refine (hcF _).mono ?_; rintro e w2 ⟨rfl, hE2⟩)
        go_roundw
        case rel => exact ⟨1, _, by omega, rfl, rfl, Lib.hid (by rw [jn_first, He.out, Ht.out]; rfl), hEr.trans hE2⟩
        case measure => (simp [intOf]; omega)
    · have hkl : k = m.length := by omega
      subst hkl
      have hER := (hE0.trans hE1).trans hEr
      have hEb := hE1.trans hEr
      by_cases h0 : m.length = 0
      · have ht0 : t = ⟨#[]⟩ := by rw [Ht.out, h0]; rfl
        subst ht0
        have Hf2 : Hid (fsF l a = if isSetB l a then ⟨#[110, 111, 110, 101]⟩ else ⟨#[]⟩) := Lib.hid (by rw [Hf.out, if_pos h0])
        have hcS := sIsSet_any v l a _ (hg _ hEb)
        clear h0 hts Hf
        cases hs : isSetB l a
        all_goals
          rw [hs] at Hf2 hcS
          go_wp2_with (refine hcS.mono ?_; rintro e w3 ⟨rfl, hE3⟩)
          go_ret
          exact ⟨ret_str Hf2.out.symm, hER.trans hE3⟩
      · have He : Hid (fsF l a = t) := Lib.hid (by rw [Hf.out, if_neg h0, Ht.out])
        have h1 := jn_some comma (fun i => fmtB (nth m i)) m.length (by omega) fun i hi => fmtB_some (Hin.out i hi)
        rw [← Ht.out] at h1
        have ht1 := str_some h1
        go_wp2_with fail
        go_ret
        exact ⟨ret_str He.out.symm, hER⟩
end Go.Zz
