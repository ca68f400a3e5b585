/- Negatives of elements and of sets; differences of sets. -/
import Derived.Test.YtgkojfjbfmpaaaaGreatGr3
import Derived.Test.YtgkojfjbfmpaaaaGreatGr4
import Derived.Test.YtgkojfjbfmpaaaaGreatGr5
namespace Go.Zz
open Go.RowKit Go.Proofs
set_option maxHeartbeats 400000

theorem neg_val {x q s u : Nat} (hs : s < 24) (hq : 2 ≤ q) (hm : ((q - x % q) % q) * u ≤ 331776) :
    Value.int .i64 (wrap64 ((s : Int) + wrap64 ((((q : Int) - (x : Int) % (q : Int)) % (q : Int)) * (u : Int)))) = .int .i64 ((s + ((q - x % q) % q) * u : Nat) : Int) := by
  have h1 := Nat.mod_lt x (show 0 < q by omega)
  have e1 : (q : Int) - (x : Int) % (q : Int) = ((q - x % q : Nat) : Int) := by rw [← Int.natCast_emod]; omega
  have e2 : (((q - x % q : Nat) : Int) % (q : Int)) * (u : Int) = ((((q - x % q) % q) * u : Nat) : Int) := by rw [Int.natCast_mul, Int.natCast_emod]
  rw [e1, e2]
  generalize ((q - x % q) % q) * u = d at hm ⊢
  rw [wrapN d (by omega), ← Int.natCast_add, wrapN (s + d) (by omega)]
--%call negate 71 ext negate_any _ _ _ _ ({0}) ({1}) ({2})
theorem negate_any (v : Value) (l : List Int) (x : Nat) (w : World) (h : Ints w v l) (Hgr : Hid (isGrp l = true)) (hx : x < 16777216) :
    Calls Tryz.prog 71 #[.agg #[v], .int .i64 x] w fun e w' => e = .returned (.int .i64 (negF l x)) ∧ Ext w w' := by
  obtain ⟨ao, c, adr, rfl, hlen, hadr, hcell⟩ := h.op
  have hix := ints_index (c := c) elI szI hadr
  clear hadr h
  obtain ⟨wb, hwb⟩ : ∃ wb, wb = w.alloc (.cells #[.slice ao l.length c] 26) := ⟨_, rfl⟩
  have hE0 := (Ext.refl w).alloc (.cells #[.slice ao l.length c] 26)
  have hb := box_cell w (.slice ao l.length c) 26
  rw [← hwb] at hE0 hb
  have hE := Ext.refl wb
  have Hwb := Lib.hid hwb
  have hA := negF_bd Hgr.out x
  have h3 := isGrp_len Hgr.out
  clear hwb
  go_enter Tryz.func71, Tryz.ntmps71
  go_wp2_with fail
  rw [← Hwb.out]
  go_loopw [1, 5, 6, 12] (fun xv sv uv i wr => ∃ k x' s u : Nat, k ≤ l.length ∧ x' ≤ x ∧ s + u * negF (l.drop k) x' = negF l x ∧ (u : Int) = prodL (l.take k) ∧ xv = .int .i64 x' ∧ sv = .int .i64 s ∧ uv = .int .i64 u ∧ i = .int .i64 k ∧ Ext wb wr) (fun _ _ _ i _ => l.length - (intOf i).toNat)
  case atStart => exact ⟨0, x, 0, 1, by omega, by omega, by simp, by simp [prodL], rfl, rfl, rfl, rfl, hE⟩
  case round =>
    clear hE
    obtain ⟨k, x', s, u, hk, hx', hs, hu, rfl, rfl, rfl, rfl, hE⟩ := hrel
    have hbx := hb wr hE
    have hsb := add_inv hs hA
    obtain ⟨hu1, hu2⟩ := prodL_bd3 k l hk (by omega) (fun j hj => isGrp_nth Hgr.out (by omega))
    rw [← hu] at hu1 hu2
    have Hs := Lib.hid hs
    have Hu := Lib.hid hu
    clear hs hu hA
    by_cases hlt : k < l.length
    · have hck := hcell k _ hlt (hE0.trans hE)
      obtain ⟨hq1, hq2⟩ := isGrp_nth Hgr.out hlt
      obtain ⟨q, hq⟩ := Int.eq_ofNat_of_zero_le (show 0 ≤ nth l k by omega)
      have Hst := Lib.hid (negF_step hlt hq x')
      have Hu2 : Hid (nth l k * prodL (l.take k) = prodL (l.take (k + 1))) := Lib.hid (by rw [prodL_take l k hlt, Int.mul_comm])
      rw [hq] at hq1 hq2
      have Hq := Lib.hid hq
      have hd : (q - x' % q) % q < 24 := Nat.lt_of_lt_of_le (Nat.mod_lt _ (by omega)) (by omega)
      have hm1 : ((q - x' % q) % q) * u ≤ 24 * 13824 := Nat.mul_le_mul (by omega) (by omega)
      have hm2 : u * q ≤ 13824 * 24 := Nat.mul_le_mul (by omega) (by omega)
      have h1 := Nat.mod_lt x' (show 0 < q by omega)
      have c1 : (q : Int) - (x' : Int) % (q : Int) = ((q - x' % q : Nat) : Int) := by rw [← Int.natCast_emod]; omega
      have c2 : (((q : Int) - (x' : Int) % (q : Int)) % (q : Int)) * (u : Int) = ((((q - x' % q) % q) * u : Nat) : Int) := by rw [c1, Int.natCast_mul, Int.natCast_emod]
      have c3 : ((u * q : Nat) : Int) = (u : Int) * (q : Int) := Int.natCast_mul _ _
      have b1 : (x' : Int) % (q : Int) < 24 := by have := Int.emod_lt_of_pos (x' : Int) (show (0:Int) < q by omega); omega
      have b3 : 0 ≤ (x' : Int) % (q : Int) := Int.emod_nonneg _ (by omega)
      have b2 : 0 ≤ (q : Int) - (x' : Int) % (q : Int) := by have := Int.emod_lt_of_pos (x' : Int) (show (0:Int) < q by omega); omega
      have b5 : (((q : Int) - (x' : Int) % (q : Int)) % (q : Int)) * (u : Int) ≤ 331776 := by rw [c2]; omega
      have b6 : 0 ≤ (((q : Int) - (x' : Int) % (q : Int)) % (q : Int)) * (u : Int) := by rw [c2]; omega
      have b7 : (u : Int) * (q : Int) ≤ 331776 := by rw [← c3]; omega
      have b8 : 0 ≤ (u : Int) * (q : Int) := by rw [← c3]; omega
      have Hm1 := Lib.hid hm1
      clear c1 c2 c3 hd hm1 hm2 h1
      go_wp2_with fail
      skip
      go_roundw
      case rel =>
        refine ⟨k + 1, x' / q, s + ((q - x' % q) % q) * u, u * q, by omega, Nat.le_trans (Nat.div_le_self _ _) hx', ?_, ?_, ?_, ?_, ?_, by go_num, hE⟩
        · apply add_next
          rw [← Hst.out]; exact Hs.out
        · rw [← Hu2.out, ← Hu.out, Hq.out]; push_cast; rw [Int.mul_comm]
        · exact div_val (Nat.le_trans hx' (Nat.le_of_lt hx))
        · first | exact neg_val hsb (by omega) Hm1.out | (rw [show (-((x' : Int) % (q : Int))) % (q : Int) = ((q : Int) - (x' : Int) % (q : Int)) % (q : Int) from by simp]; exact neg_val hsb (by omega) Hm1.out)
        · exact mul_val u q
      case measure => (simp [intOf]; omega)
    · have hkl : k = l.length := by omega
      subst hkl
      go_wp2_with fail
      go_ret
      exact ⟨ret_int (by have := Hs.out; rw [List.drop_length] at this; simp [negF] at this; omega), hE0.trans hE⟩
--%call l2Negate 62 ext l2Negate_any _ _ _ _ ({0}) ({1}) ({2})
theorem l2Negate_any (v : Value) (l : List Int) (x : Nat) (w : World) (h : Ints w v l) (Hgr : Hid (isGrp l = true)) (hx : x < 16777216) :
    Calls Tryz.prog 62 #[.agg #[v], .int .i64 x] w fun e w' => e = .returned (.int .i64 (negF l x)) ∧ Ext w w' := by
  obtain ⟨ao, c, adr, rfl, hlen, hadr, hcell⟩ := h.op
  have hix := ints_index (c := c) elI szI hadr
  clear hadr h
  obtain ⟨wb, hwb⟩ : ∃ wb, wb = w.alloc (.cells #[.slice ao l.length c] 26) := ⟨_, rfl⟩
  have hE0 := (Ext.refl w).alloc (.cells #[.slice ao l.length c] 26)
  have hb := box_cell w (.slice ao l.length c) 26
  rw [← hwb] at hE0 hb
  have hE := Ext.refl wb
  have Hwb := Lib.hid hwb
  have hA := negF_bd Hgr.out x
  have h3 := isGrp_len Hgr.out
  clear hwb
  go_enter Tryz.func62, Tryz.ntmps62
  go_wp2_with fail
  rw [← Hwb.out]
  go_loopw [1, 5, 6, 7] (fun xv sv uv i wr => ∃ k x' s u : Nat, k ≤ l.length ∧ x' ≤ x ∧ s + u * negF (l.drop k) x' = negF l x ∧ (u : Int) = prodL (l.take k) ∧ xv = .int .i64 x' ∧ sv = .int .i64 s ∧ uv = .int .i64 u ∧ i = .int .i64 k ∧ Ext wb wr) (fun _ _ _ i _ => l.length - (intOf i).toNat)
  case atStart => exact ⟨0, x, 0, 1, by omega, by omega, by simp, by simp [prodL], rfl, rfl, rfl, rfl, hE⟩
  case round =>
    clear hE
    obtain ⟨k, x', s, u, hk, hx', hs, hu, rfl, rfl, rfl, rfl, hE⟩ := hrel
    have hbx := hb wr hE
    have hsb := add_inv hs hA
    obtain ⟨hu1, hu2⟩ := prodL_bd3 k l hk (by omega) (fun j hj => isGrp_nth Hgr.out (by omega))
    rw [← hu] at hu1 hu2
    have Hs := Lib.hid hs
    have Hu := Lib.hid hu
    clear hs hu hA
    by_cases hlt : k < l.length
    · have hck := hcell k _ hlt (hE0.trans hE)
      obtain ⟨hq1, hq2⟩ := isGrp_nth Hgr.out hlt
      obtain ⟨q, hq⟩ := Int.eq_ofNat_of_zero_le (show 0 ≤ nth l k by omega)
      have Hst := Lib.hid (negF_step hlt hq x')
      have Hu2 : Hid (nth l k * prodL (l.take k) = prodL (l.take (k + 1))) := Lib.hid (by rw [prodL_take l k hlt, Int.mul_comm])
      rw [hq] at hq1 hq2
      have Hq := Lib.hid hq
      have hd : (q - x' % q) % q < 24 := Nat.lt_of_lt_of_le (Nat.mod_lt _ (by omega)) (by omega)
      have hm1 : ((q - x' % q) % q) * u ≤ 24 * 13824 := Nat.mul_le_mul (by omega) (by omega)
      have hm2 : u * q ≤ 13824 * 24 := Nat.mul_le_mul (by omega) (by omega)
      have h1 := Nat.mod_lt x' (show 0 < q by omega)
      have c1 : (q : Int) - (x' : Int) % (q : Int) = ((q - x' % q : Nat) : Int) := by rw [← Int.natCast_emod]; omega
      have c2 : (((q : Int) - (x' : Int) % (q : Int)) % (q : Int)) * (u : Int) = ((((q - x' % q) % q) * u : Nat) : Int) := by rw [c1, Int.natCast_mul, Int.natCast_emod]
      have c3 : ((u * q : Nat) : Int) = (u : Int) * (q : Int) := Int.natCast_mul _ _
      have b1 : (x' : Int) % (q : Int) < 24 := by have := Int.emod_lt_of_pos (x' : Int) (show (0:Int) < q by omega); omega
      have b3 : 0 ≤ (x' : Int) % (q : Int) := Int.emod_nonneg _ (by omega)
      have b2 : 0 ≤ (q : Int) - (x' : Int) % (q : Int) := by have := Int.emod_lt_of_pos (x' : Int) (show (0:Int) < q by omega); omega
      have b5 : (((q : Int) - (x' : Int) % (q : Int)) % (q : Int)) * (u : Int) ≤ 331776 := by rw [c2]; omega
      have b6 : 0 ≤ (((q : Int) - (x' : Int) % (q : Int)) % (q : Int)) * (u : Int) := by rw [c2]; omega
      have b7 : (u : Int) * (q : Int) ≤ 331776 := by rw [← c3]; omega
      have b8 : 0 ≤ (u : Int) * (q : Int) := by rw [← c3]; omega
      have Hm1 := Lib.hid hm1
      clear c1 c2 c3 hd hm1 hm2 h1
      go_wp2_with fail
      skip
      go_roundw
      case rel =>
        refine ⟨k + 1, x' / q, s + ((q - x' % q) % q) * u, u * q, by omega, Nat.le_trans (Nat.div_le_self _ _) hx', ?_, ?_, ?_, ?_, ?_, by go_num, hE⟩
        · apply add_next
          rw [← Hst.out]; exact Hs.out
        · rw [← Hu2.out, ← Hu.out, Hq.out]; push_cast; rw [Int.mul_comm]
        · exact div_val (Nat.le_trans hx' (Nat.le_of_lt hx))
        · first | exact neg_val hsb (by omega) Hm1.out | (rw [show (-((x' : Int) % (q : Int))) % (q : Int) = ((q : Int) - (x' : Int) % (q : Int)) % (q : Int) from by simp]; exact neg_val hsb (by omega) Hm1.out)
        · exact mul_val u q
      case measure => (simp [intOf]; omega)
    · have hkl : k = l.length := by omega
      subst hkl
      go_wp2_with fail
      go_ret
      exact ⟨ret_int (by have := Hs.out; rw [List.drop_length] at this; simp [negF] at this; omega), hE0.trans hE⟩

--%call opposite 64 ext opposite_any _ _ _ _ ({0}) ({1}) ({2})
theorem opposite_any (v : Value) (l : List Int) (a : Nat) (w : World) (h : Ints w v l) (Hgr : Hid (isGrp l = true)) (ha : a < 2 ^ 24) :
    Calls Tryz.prog 64 #[.agg #[v], .int .i64 a] w fun e w' => e = .returned (.int .i64 (oppF l a)) ∧ Ext w w' := by
  obtain ⟨wb, hwb⟩ : ∃ wb, wb = w.alloc (.cells #[v] 26) := ⟨_, rfl⟩
  have hE0 := (Ext.refl w).alloc (.cells #[v] 26)
  have hb := box_cell w v 26
  rw [← hwb] at hE0 hb
  have hg : ∀ W, Ext wb W → Ints W v l := fun W hW => h.ext (hE0.trans hW)
  have hE := Ext.refl wb
  have Hsz : Hid (w.heap.size + 1 = wb.heap.size) := Lib.hid (by rw [hwb]; simp [go_sem])
  have Hwb := Lib.hid hwb
  clear hwb h
  go_enter Tryz.func64, Tryz.ntmps64
  go_wp2_with fail
  rw [← Hwb.out]
  go_wp2_with (first | (go_at_call 65; refine (members_any _ (ha) _).mono ?_; rintro e w1 ⟨v1, rfl, hL, hE1⟩; obtain ⟨aoL, cL, adrL, rfl, hadrL, hcellL⟩ := hL.ints.nats; have hixL := ints_index (c := cL) elI szI hadrL; clear hadrL))
  have hb1 : ∀ W, Ext w1 W → W.cell? ⟨w.heap.size, 0, none⟩ = some v := fun W hW => hb W (hE1.trans hW)
  have hg1 : ∀ W, Ext w1 W → Ints W v l := fun W hW => hg W (hE1.trans hW)
  replace hE := Ext.refl w1
  clear hb hg hL
  have hall : ∀ y ∈ elems a, y < 24 := fun y hy => elems_lt hy
  have hlen := elems_len a
  have Hd := Lib.hid (oppL_all l a)
  generalize elems a = L at hcellL hixL hall hlen Hd ⊢
  go_loopw [5, 11] (fun ov i wr => ∃ k : Nat, k ≤ L.length ∧ i = .int .i64 k ∧ ov = .int .i64 ((oppL l (L.take k) : Nat) : Int) ∧ Ext w1 wr) (fun _ i _ => L.length - (intOf i).toNat)
  case atStart => exact ⟨0, by omega, rfl, by simp [oppL, bset], hE⟩
  case round =>
    clear hE
    obtain ⟨k, hk, rfl, rfl, hE⟩ := hrel
    by_cases hlt : k < L.length
    · have hck := hcellL k _ hlt hE
      have hbx := hb1 _ hE
      have hby := hall _ (nthN_mem hlt)
      have Ht := Lib.hid (oppL_snoc l (L.take k) (nthN L k))
      have Ht2 := Lib.hid (take_nthN L k hlt)
      have hz := negF_bd Hgr.out (nthN L k)
      have hs1 := ishl_one (n := negF l (nthN L k)) (by omega)
      have hs2 := ior_pw (oppL_bd Hgr.out (L.take k)) hz
      go_wp2_with (first | (go_at_call 71; refine (negate_any _ _ _ _ (hg1 _ hE) (Hgr) ((by omega))).mono ?_; rintro e w' ⟨rfl, hE'⟩; replace hE := hE.trans hE'; clear hE'))
      go_roundw
      case rel => exact ⟨k + 1, by omega, by go_num, by rw [Ht2.out, Ht.out], hE⟩
      case measure => (simp [intOf]; omega)
    · have hkl : k = L.length := by omega
      subst hkl
      go_wp2_with fail
      go_ret
      exact ⟨ret_int (by rw [List.take_length, Hd.out]), hE0.trans (hE1.trans hE)⟩
--%call l3Negate 67 ext l3Negate_any _ _ _ _ ({0}) ({1}) ({2})
theorem l3Negate_any (v : Value) (l : List Int) (a : Nat) (w : World) (h : Ints w v l) (Hgr : Hid (isGrp l = true)) (ha : a < 2 ^ 24) :
    Calls Tryz.prog 67 #[.agg #[v], .int .i64 a] w fun e w' => e = .returned (.int .i64 (oppF l a)) ∧ Ext w w' := by
  obtain ⟨wb, hwb⟩ : ∃ wb, wb = w.alloc (.cells #[v] 26) := ⟨_, rfl⟩
  have hE0 := (Ext.refl w).alloc (.cells #[v] 26)
  have hb := box_cell w v 26
  rw [← hwb] at hE0 hb
  have hg : ∀ W, Ext wb W → Ints W v l := fun W hW => h.ext (hE0.trans hW)
  have hE := Ext.refl wb
  have Hsz : Hid (w.heap.size + 1 = wb.heap.size) := Lib.hid (by rw [hwb]; simp [go_sem])
  have Hwb := Lib.hid hwb
  clear hwb h
  go_enter Tryz.func67, Tryz.ntmps67
  go_wp2_with fail
  rw [← Hwb.out]
  go_wp2_with (first | (go_at_call 68; refine (l3List_any _ (ha) _).mono ?_; rintro e w1 ⟨v1, rfl, hL, hE1⟩; obtain ⟨aoL, cL, adrL, rfl, hadrL, hcellL⟩ := hL.ints.nats; have hixL := ints_index (c := cL) elI szI hadrL; clear hadrL))
  have hb1 : ∀ W, Ext w1 W → W.cell? ⟨w.heap.size, 0, none⟩ = some v := fun W hW => hb W (hE1.trans hW)
  have hg1 : ∀ W, Ext w1 W → Ints W v l := fun W hW => hg W (hE1.trans hW)
  replace hE := Ext.refl w1
  clear hb hg hL
  have hall : ∀ y ∈ elems a, y < 24 := fun y hy => elems_lt hy
  have hlen := elems_len a
  have Hd := Lib.hid (oppL_all l a)
  generalize elems a = L at hcellL hixL hall hlen Hd ⊢
  go_loopw [5, 7] (fun ov i wr => ∃ k : Nat, k ≤ L.length ∧ i = .int .i64 k ∧ ov = .int .i64 ((oppL l (L.take k) : Nat) : Int) ∧ Ext w1 wr) (fun _ i _ => L.length - (intOf i).toNat)
  case atStart => exact ⟨0, by omega, rfl, by simp [oppL, bset], hE⟩
  case round =>
    clear hE
    obtain ⟨k, hk, rfl, rfl, hE⟩ := hrel
    by_cases hlt : k < L.length
    · have hck := fun U => hcellL k _ hlt (lat_ext w1 U)
      have hbx := fun U => hb1 _ (lat_ext w1 U)
      have hby := hall _ (nthN_mem hlt)
      have Ht := Lib.hid (oppL_snoc l (L.take k) (nthN L k))
      have Ht2 := Lib.hid (take_nthN L k hlt)
      have hz := negF_bd Hgr.out (nthN L k)
      have hs1 := ishl_one (n := negF l (nthN L k)) (by omega)
      have hs2 := ior_pw (oppL_bd Hgr.out (L.take k)) hz
      go_wp2_with fail
      (refine wp_region_lat (w1) (by kernel_rfl) (by kernel_rfl) hE ?_); (repeat (go_big_quiet_step (first | (go_at_call 62; exact Calls.lat (l2Negate_any _ _ _ _ (hg1 _ (lat_ext w1 _)) (Hgr) ((by omega))))))); (refine wpQuiet_nil ?_); (intro W hE'); (replace hE := lat_of hE'); (clear hE')
      go_wp2_with fail
      go_roundw
      case rel => exact ⟨k + 1, by omega, by go_num, by rw [Ht2.out, Ht.out], hE⟩
      case measure => (simp [intOf]; omega)
    · have hkl : k = L.length := by omega
      subst hkl
      go_wp2_with fail
      go_ret
      exact ⟨ret_int (by rw [List.take_length, Hd.out]), hE0.trans (hE1.trans hE)⟩

--%call difference 27 ext difference_any _ _ _ _ _ ({0}) ({1}) ({2}) ({3})
theorem difference_any (v : Value) (l : List Int) (a b : Nat) (w : World) (h : Ints w v l) (Hgr : Hid (isGrp l = true)) (ha : a < 2 ^ 24) (hb' : b < 2 ^ 24) :
    Calls Tryz.prog 27 #[.agg #[v], .int .i64 a, .int .i64 b] w fun e w' => e = .returned (.int .i64 (sumF l a (oppF l b))) ∧ Ext w w' := by
  obtain ⟨wb, hwb⟩ : ∃ wb, wb = w.alloc (.cells #[v] 26) := ⟨_, rfl⟩
  have hE0 := (Ext.refl w).alloc (.cells #[v] 26)
  have hb := box_cell w v 26
  rw [← hwb] at hE0 hb
  have hg : ∀ W, Ext wb W → Ints W v l := fun W hW => h.ext (hE0.trans hW)
  have hE := Ext.refl wb
  have Hsz : Hid (w.heap.size + 1 = wb.heap.size) := Lib.hid (by rw [hwb]; simp [go_sem])
  have Hwb := Lib.hid hwb
  clear hwb h
  have hbx := fun U => hb _ (lat_ext wb U)
  have ho := oppF_bd Hgr.out b
  go_enter Tryz.func27, Tryz.ntmps27
  go_wp2_with fail
  rw [← Hwb.out]
  (refine wp_region_lat (wb) (by kernel_rfl) (by kernel_rfl) hE ?_); (repeat (go_big_quiet_step (first | (go_at_call 64; exact Calls.lat (opposite_any _ _ _ _ (hg _ (lat_ext wb _)) (Hgr) (hb'))) | (go_at_call 28; exact Calls.lat (sum_any _ _ _ _ _ (hg _ (lat_ext wb _)) (Hgr) (ha) (ho)))))); (refine wpQuiet_nil ?_); (intro W hE'); (replace hE := lat_of hE'); (clear hE')
  go_wp2_with fail
  go_ret
  exact ⟨rfl, hE0.trans hE⟩
end Go.Zz

/- Generated subgroups, hulls, covers. -/
namespace Go.Zz
open Go.RowKit Go.Proofs
set_option maxHeartbeats 400000

--%call generated 34 ext generated_any _ _ _ _ ({0}) ({1}) ({2})
theorem generated_any (v : Value) (l : List Int) (a : Nat) (w : World) (h : Ints w v l) (Hgr : Hid (isGrp l = true)) (ha : a < 2 ^ 24) :
    Calls Tryz.prog 34 #[.agg #[v], .int .i64 a] w fun e w' => e = .returned (.int .i64 (genF l a)) ∧ Ext w w' := by
  obtain ⟨wb, hwb⟩ : ∃ wb, wb = w.alloc (.cells #[v] 26) := ⟨_, rfl⟩
  have hE0 := (Ext.refl w).alloc (.cells #[v] 26)
  have hb := box_cell w v 26
  rw [← hwb] at hE0 hb
  have hg : ∀ W, Ext wb W → Ints W v l := fun W hW => h.ext (hE0.trans hW)
  have hE := Ext.refl wb
  have Hsz : Hid (w.heap.size + 1 = wb.heap.size) := Lib.hid (by rw [hwb]; simp [go_sem])
  have Hwb := Lib.hid hwb
  clear hwb h
  have hgb := genF_bd Hgr.out a
  have ho := oppF_bd Hgr.out a
  have Hone := Lib.hid (genF_one l a)
  go_enter Tryz.func34, Tryz.ntmps34
  go_wp2_with fail
  rw [← Hwb.out]
  go_loopw [5] (fun hv wr => ∃ h : Nat, Sub 1 h ∧ Sub h (genF l a) ∧ hv = .int .i64 h ∧ Ext wb wr) (fun hv _ => 16777216 - (intOf hv).toNat)
  case atStart => exact ⟨1, Sub.refl 1, Hone.out, rfl, hE⟩
  case round =>
    clear hE
    obtain ⟨h, h1, h2, rfl, hE⟩ := hrel
    have hbx := fun U => hb _ (lat_ext wb U)
    have hh := sub_bd hgb h2
    have hs1 := sumF_bd Hgr.out h a
    have hs2 := sumF_bd Hgr.out h (oppF l a)
    have i1 := ior_nat (a := h) (b := sumF l h a) (by omega) (by omega)
    have ho1 : h ||| sumF l h a < 2 ^ 24 := Nat.or_lt_two_pow hh hs1
    have i2 := ior_nat (a := h ||| sumF l h a) (b := sumF l h (oppF l a)) (by omega) (by omega)
    have hN2 := grow2_sub Hgr.out h2
    have hN1 := grow2_le l a h
    have hend := grow2_end h1 h2
    have hNb := sub_bd hgb hN2
    rw [show h ||| sumF l h a ||| sumF l h (oppF l a) = grow2 l a h from rfl] at i2
    generalize grow2 l a h = N at i2 hN2 hN1 hend hNb
    have H1 := Lib.hid h1
    have H2 := Lib.hid h2
    have HN1 := Lib.hid hN1
    have HN2 := Lib.hid hN2
    have He := Lib.hid hend
    clear h1 h2 hN1 hN2 hend
    by_cases hq : N = h
    · have hq' : ((N : Int) == (h : Int)) = true := by simp [hq]
      have Hq := Lib.hid hq
      clear hq
      go_wp2_with fail
      (refine wp_region_lat (wb) (by kernel_rfl) (by kernel_rfl) hE ?_); (repeat (go_big_quiet_step (first | (go_at_call 28; exact Calls.lat (sum_any _ _ _ _ _ (hg _ (lat_ext wb _)) (Hgr) (hh) (ha))) | (go_at_call 28; exact Calls.lat (sum_any _ _ _ _ _ (hg _ (lat_ext wb _)) (Hgr) (hh) (ho))) | (go_at_call 64; exact Calls.lat (opposite_any _ _ _ _ (hg _ (lat_ext wb _)) (Hgr) (ha)))))); (refine wpQuiet_nil ?_); (intro W hE'); (replace hE := lat_of hE'); (clear hE')
      go_wp2_with fail
      go_ret
      exact ⟨ret_int (by rw [← He.out Hq.out]), hE0.trans hE⟩
    · have hq' : ((N : Int) == (h : Int)) = false := by simp; omega
      have Hlt := Lib.hid (sub_lt hNb HN1.out (fun e => hq e.symm)).1
      clear hq
      go_wp2_with fail
      (refine wp_region_lat (wb) (by kernel_rfl) (by kernel_rfl) hE ?_); (repeat (go_big_quiet_step (first | (go_at_call 28; exact Calls.lat (sum_any _ _ _ _ _ (hg _ (lat_ext wb _)) (Hgr) (hh) (ha))) | (go_at_call 28; exact Calls.lat (sum_any _ _ _ _ _ (hg _ (lat_ext wb _)) (Hgr) (hh) (ho))) | (go_at_call 64; exact Calls.lat (opposite_any _ _ _ _ (hg _ (lat_ext wb _)) (Hgr) (ha)))))); (refine wpQuiet_nil ?_); (intro W hE'); (replace hE := lat_of hE'); (clear hE')
      go_wp2_with fail
      go_roundw
      case rel => exact ⟨N, H1.out.trans HN1.out, HN2.out, rfl, hE⟩
      case measure => (simp [intOf]; have := Hlt.out; omega)
--%call l5Closure 60 ext l5Closure_any _ _ _ _ ({0}) ({1}) ({2})
theorem l5Closure_any (v : Value) (l : List Int) (a : Nat) (w : World) (h : Ints w v l) (Hgr : Hid (isGrp l = true)) (ha : a < 2 ^ 24) :
    Calls Tryz.prog 60 #[.agg #[v], .int .i64 a] w fun e w' => e = .returned (.int .i64 (genF l a)) ∧ Ext w w' := by
  obtain ⟨wb, hwb⟩ : ∃ wb, wb = w.alloc (.cells #[v] 26) := ⟨_, rfl⟩
  have hE0 := (Ext.refl w).alloc (.cells #[v] 26)
  have hb := box_cell w v 26
  rw [← hwb] at hE0 hb
  have hg : ∀ W, Ext wb W → Ints W v l := fun W hW => h.ext (hE0.trans hW)
  have hE := Ext.refl wb
  have Hsz : Hid (w.heap.size + 1 = wb.heap.size) := Lib.hid (by rw [hwb]; simp [go_sem])
  have Hwb := Lib.hid hwb
  clear hwb h
  have hbx := hb wb hE
  have hgb := genF_bd Hgr.out a
  have Hone := Lib.hid (genF_one l a)
  have h1b : (1 : Nat) < 2 ^ 24 := by omega
  have hs1 := sumF_bd Hgr.out 1 a
  have i1 := ior_nat (a := 1) (b := sumF l 1 a) (by omega) (by omega)
  go_enter Tryz.func60, Tryz.ntmps60
  go_wp2_with fail
  rw [← Hwb.out]
  go_wp2_with (first | (go_at_call 31; refine (l4Sum_any _ _ _ _ _ (hg _ hE) (Hgr) (h1b) (ha)).mono ?_; rintro e w' ⟨rfl, hE'⟩; replace hE := hE.trans hE'; clear hE'))
  clear hbx hs1
  go_loopw [5, 6] (fun hv nv wr => ∃ h : Nat, Sub 1 h ∧ Sub h (genF l a) ∧ hv = .int .i64 h ∧ nv = .int .i64 (grow l a h : Nat) ∧ Ext wb wr) (fun hv _ _ => 16777216 - (intOf hv).toNat)
  case atStart => exact ⟨1, Sub.refl 1, Hone.out, rfl, by unfold grow; rw [← i1]; rfl, hE⟩
  case round =>
    clear hE i1
    obtain ⟨h, h1, h2, rfl, rfl, hE⟩ := hrel
    have hbx := hb _ hE
    have hh := sub_bd hgb h2
    have hN2 := grow_sub Hgr.out h2
    have hN1 : Sub h (grow l a h) := Sub.or_left _ _
    have hend := grow_end h1 h2
    have hNb := sub_bd hgb hN2
    generalize grow l a h = N at hN2 hN1 hend hNb ⊢
    have hs1 := sumF_bd Hgr.out N a
    have i1 := ior_nat (a := N) (b := sumF l N a) (by omega) (by omega)
    have Hi : Hid (N ||| sumF l N a = grow l a N) := Lib.hid rfl
    have H1 := Lib.hid h1
    have H2 := Lib.hid h2
    have HN1 := Lib.hid hN1
    have HN2 := Lib.hid hN2
    have He := Lib.hid hend
    clear h1 h2 hN1 hN2 hend
    by_cases hq : N = h
    · have hq' : ((N : Int) != (h : Int)) = false := by simp [hq]
      have Hq := Lib.hid hq
      clear hq
      go_wp2_with fail
      go_ret
      exact ⟨ret_int (by rw [← He.out Hq.out]), hE0.trans hE⟩
    · have hq' : ((N : Int) != (h : Int)) = true := by simp; omega
      have Hlt := Lib.hid (sub_lt hNb HN1.out (fun e => hq e.symm)).1
      clear hq
      go_wp2_with (first | (go_at_call 31; refine (l4Sum_any _ _ _ _ _ (hg _ hE) (Hgr) (hNb) (ha)).mono ?_; rintro e w' ⟨rfl, hE'⟩; replace hE := hE.trans hE'; clear hE'))
      go_roundw
      case rel => exact ⟨N, H1.out.trans HN1.out, HN2.out, rfl, by rw [Hi.out], hE⟩
      case measure => (simp [intOf]; have := Hlt.out; omega)

--%call AffineHull 35 ext AffineHull_any _ _ _ _ ({0})
theorem AffineHull_any (v : Value) (l : List Int) (a : Int) (w : World) (h : Ints w v l) :
    Calls Tryz.prog 35 #[.agg #[v], .int .i64 a] w fun e w' => e = .returned (.int .i64 (hullF l a)) ∧ Ext w w' := by
  obtain ⟨wb, hwb⟩ : ∃ wb, wb = w.alloc (.cells #[v] 26) := ⟨_, rfl⟩
  have hE0 := (Ext.refl w).alloc (.cells #[v] 26)
  have hb := box_cell w v 26
  rw [← hwb] at hE0 hb
  have hg : ∀ W, Ext wb W → Ints W v l := fun W hW => h.ext (hE0.trans hW)
  have hE := Ext.refl wb
  have Hsz : Hid (w.heap.size + 1 = wb.heap.size) := Lib.hid (by rw [hwb]; simp [go_sem])
  have Hwb := Lib.hid hwb
  clear hwb h
  have hbx := hb wb hE
  cases hs : isSetB l a
  · have Hs := Lib.hid (hullF_no (isOneB_no hs))
    go_enter Tryz.func35, Tryz.ntmps35
    go_wp2_with fail
    rw [← Hwb.out]
    go_wp2_with (first | (go_at_call 32; refine (IsSet_any _ _ _ _ (hg _ hE)).mono ?_; rintro e w' ⟨rfl, hE'⟩; replace hE := hE.trans hE'; clear hE'))
    go_ret
    exact ⟨ret_int Hs.out.symm, hE0.trans hE⟩
  · obtain ⟨n, rfl, h1, h2, hgr⟩ := isSetB_nat hs
    by_cases h0 : n = 0
    · subst h0
      have Hs := Lib.hid (hullF_no (isOneB_zero l))
      go_enter Tryz.func35, Tryz.ntmps35
      go_wp2_with fail
      rw [← Hwb.out]
      go_wp2_with (first | (go_at_call 32; refine (IsSet_any _ _ _ _ (hg _ hE)).mono ?_; rintro e w' ⟨rfl, hE'⟩; replace hE := hE.trans hE'; clear hE'))
      go_ret
      exact ⟨ret_int (by have := Hs.out; simp_all), hE0.trans hE⟩
    · have Hs := Lib.hid (hullF_yes (isOneB_yes hs (by omega)))
      obtain ⟨l1, l2, l3, l4⟩ := lowN_first h0 h2
      have h0' : ((n : Int) == 0) = false := by simp; omega
      have Hgr := Lib.hid hgr
      have hn := negF_bd hgr (lowN n)
      have hs1 := shiftF_bd hgr n (negF l (lowN n))
      have hs2 := genF_bd hgr (shiftF l n (negF l (lowN n)))
      clear hgr h0
      go_enter Tryz.func35, Tryz.ntmps35
      go_wp2_with fail
      rw [← Hwb.out]
      go_wp2_with (first | (go_at_call 32; refine (IsSet_any _ _ _ _ (hg _ hE)).mono ?_; rintro e w' ⟨rfl, hE'⟩; replace hE := hE.trans hE'; clear hE') | (go_at_call 65; refine (members_any n h2 _).mono ?_; rintro e w1 ⟨v1, rfl, hL, hE1⟩; replace hE := hE.trans hE1; obtain ⟨aoL, cL, adrL, rfl, hadrL, hcellL⟩ := hL.ints.nats; have hixL := ints_index (c := cL) elI szI hadrL; clear hadrL; have hck := hcellL 0 _ l2 (Ext.refl _); rw [l1] at hck; have hix0 : ∀ W, (Instr.indexAt 24 (.slice aoL (elems n).length cL) (.int .i64 0)).run Tryz.prog W = .ok (.pointer (some (adrL 0))) W := fun W => hixL 0 W l2))
      replace hbx := fun U => hb _ (lat_ext wb U)
      (refine wp_region_lat (wb) (by kernel_rfl) (by kernel_rfl) hE ?_); (repeat (go_big_quiet_step (first | (go_at_call 71; exact Calls.lat (negate_any _ _ _ _ (hg _ (lat_ext wb _)) (Hgr) ((by omega)))) | (go_at_call 66; exact Calls.lat (shift_any _ _ _ _ _ (hg _ (lat_ext wb _)) (Hgr) (h2) (hn))) | (go_at_call 66; exact Calls.lat (shift_any _ _ _ _ _ (hg _ (lat_ext wb _)) (Hgr) (hs2) (l4))) | (go_at_call 34; exact Calls.lat (generated_any _ _ _ _ (hg _ (lat_ext wb _)) (Hgr) (hs1)))))); (refine wpQuiet_nil ?_); (intro W hE'); (replace hE := lat_of hE'); (clear hE')
      go_wp2_with fail
      go_ret
      exact ⟨ret_int (by rw [Hs.out]; rfl), hE0.trans hE⟩
theorem DoubleCover_any (v : Value) (l : List Int) (a : Int) (w : World) (h : Ints w v l) :
    Calls Tryz.prog 23 #[.agg #[v], .int .i64 a] w fun e w' => e = .returned (.tuple #[.int .i64 (dcF l a), .bool (isOneB l a)]) ∧ Ext w w' := by
  obtain ⟨wb, hwb⟩ : ∃ wb, wb = w.alloc (.cells #[v] 26) := ⟨_, rfl⟩
  have hE0 := (Ext.refl w).alloc (.cells #[v] 26)
  have hb := box_cell w v 26
  rw [← hwb] at hE0 hb
  have hg : ∀ W, Ext wb W → Ints W v l := fun W hW => h.ext (hE0.trans hW)
  have hE := Ext.refl wb
  have Hsz : Hid (w.heap.size + 1 = wb.heap.size) := Lib.hid (by rw [hwb]; simp [go_sem])
  have Hwb := Lib.hid hwb
  clear hwb h
  have hbx := hb wb hE
  cases hs : isOneB l a
  · have Hs := Lib.hid (dcF_no hs)
    have Hu := Lib.hid (hullF_no hs)
    go_enter Tryz.func23, Tryz.ntmps23
    go_wp2_with fail
    rw [← Hwb.out]
    go_wp2_with (first | (go_at_call 35; refine (AffineHull_any _ _ _ _ (hg _ hE)).mono ?_; rw [Hu.out]; rintro e w' ⟨rfl, hE'⟩; replace hE := hE.trans hE'; clear hE'))
    refine bodyPost_ret (v := .tuple #[.int .i64 0, .bool false]) (by simp [results, Tryz.results23, go_sem]) rfl ⟨by rw [Hs.out], hE0.trans hE⟩
  · obtain ⟨n, rfl, h0, h1, h2, hgr⟩ := isOneB_nat hs
    have Hs := Lib.hid (dcF_yes hs)
    have Hu := Lib.hid (hullF_yes hs)
    have Hgr := Lib.hid hgr
    have Hd := Lib.hid (coset_diff hgr (shiftF l n (negF l (lowN n))) (lowN n))
    have hhb := shiftF_bd hgr (baseF l n) (lowN n)
    have HB : Hid (sumF l (shiftF l (baseF l n) (lowN n)) (oppF l (shiftF l (baseF l n) (lowN n))) = baseF l n) := Lib.hid Hd.out
    generalize shiftF l (baseF l n) (lowN n) = H at Hu hhb HB
    clear hgr Hd
    go_enter Tryz.func23, Tryz.ntmps23
    go_wp2_with fail
    rw [← Hwb.out]
    go_wp2_with (first | (go_at_call 35; refine (AffineHull_any _ _ _ _ (hg _ hE)).mono ?_; rw [Hu.out]; rintro e w' ⟨rfl, hE'⟩; replace hE := hE.trans hE'; clear hE') | (go_at_call 27; refine (difference_any _ _ _ _ _ (hg _ hE) Hgr hhb hhb).mono ?_; rw [HB.out]; rintro e w' ⟨rfl, hE'⟩; replace hE := hE.trans hE'; clear hE'))
    refine bodyPost_ret (v := .tuple #[.int .i64 (baseF l n : Int), .bool true]) (by simp [results, Tryz.results23, go_sem]) rfl ⟨by rw [Hs.out], hE0.trans hE⟩
--%call l5Low 63 same l5Low_any _ ({0}) ({1}) _
theorem l5Low_any (a : Nat) (h0 : a ≠ 0) (ha : a < 2 ^ 24) (w : World) :
    Calls Tryz.prog 63 #[.int .i64 a] w fun e w' => e = .returned (.int .i64 (lowN a : Int)) ∧ w = w' := by
  obtain ⟨-, -, l3, l4⟩ := lowN_first h0 ha
  have L3 := Lib.hid l3
  clear l3
  go_enter Tryz.func63, Tryz.ntmps63
  go_wp2_with fail
  go_loop [3] (fun i => ∃ k : Nat, k ≤ lowN a ∧ (∀ j, j < k → a.testBit j = false) ∧ i = .int .i64 k) (fun i => 24 - (intOf i).toNat)
  case atStart => exact ⟨0, by omega, by omega, rfl⟩
  case round =>
    obtain ⟨k, hk, hall, rfl⟩ := hrel
    have Hall := Lib.hid hall
    clear hall
    have hsh := ishr_nat (a := a) (n := k) (by omega)
    have hle := shr_le a k
    cases hb : a.testBit k
    · have hm : shr a k % 2 = 0 := by
        rw [Nat.testBit_eq_decide_div_mod_eq, ← Nat.shiftRight_eq_div_pow] at hb
        have := of_decide_eq_false hb
        unfold shr; omega
      have hand : iand ((shr a k : Nat) : Int) 1 = 0 := by rw [iand_one (by omega), hm]; rfl
      have hne : k ≠ lowN a := by intro e; have := L3.out; rw [← e, hb] at this; cases this
      have Hb := Lib.hid hb
      clear hb hm
      go_wp2_with fail
      go_round
      case rel => exact ⟨k + 1, by omega, fun j hj => by by_cases e : j = k; (subst e; exact Hb.out); exact Hall.out j (by omega), by go_num⟩
      case measure => (simp [intOf]; omega)
    · have hm : shr a k % 2 = 1 := by
        rw [Nat.testBit_eq_decide_div_mod_eq, ← Nat.shiftRight_eq_div_pow] at hb
        exact of_decide_eq_true hb
      have hand : iand ((shr a k : Nat) : Int) 1 = 1 := by rw [iand_one (by omega), hm]; rfl
      have He := Lib.hid (lowN_at (by omega) Hall.out hb)
      clear hb hm
      go_wp2_with fail
      go_ret
      exact ⟨ret_int (by rw [He.out]), rfl⟩
theorem sDoubleCover_any (v : Value) (l : List Int) (a : Int) (w : World) (h : Ints w v l) :
    Calls Tryz.prog 24 #[.agg #[v], .int .i64 a] w fun e w' => e = .returned (.tuple #[.int .i64 (dcF l a), .bool (isOneB l a)]) ∧ Ext w w' := by
  obtain ⟨wb, hwb⟩ : ∃ wb, wb = w.alloc (.cells #[v] 26) := ⟨_, rfl⟩
  have hE0 := (Ext.refl w).alloc (.cells #[v] 26)
  have hb := box_cell w v 26
  rw [← hwb] at hE0 hb
  have hg : ∀ W, Ext wb W → Ints W v l := fun W hW => h.ext (hE0.trans hW)
  have hE := Ext.refl wb
  have Hsz : Hid (w.heap.size + 1 = wb.heap.size) := Lib.hid (by rw [hwb]; simp [go_sem])
  have Hwb := Lib.hid hwb
  clear hwb h
  have hbx := hb wb hE
  cases hs : isSetB l a
  · have Hs := Lib.hid (dcF_no (isOneB_no hs))
    have Ht := Lib.hid (isOneB_no hs)
    go_enter Tryz.func24, Tryz.ntmps24
    go_wp2_with fail
    rw [← Hwb.out]
    go_wp2_with (first | (go_at_call 16; refine (sIsSet_any _ _ _ _ (hg _ hE)).mono ?_; rintro e w' ⟨rfl, hE'⟩; replace hE := hE.trans hE'; clear hE'))
    refine bodyPost_ret (v := .tuple #[.int .i64 0, .bool false]) (by simp [results, Tryz.results24, go_sem]) rfl ⟨by rw [Hs.out, Ht.out], hE0.trans hE⟩
  · obtain ⟨n, rfl, h1, h2, hgr⟩ := isSetB_nat hs
    by_cases h0 : n = 0
    · subst h0
      have Hs := Lib.hid (dcF_no (isOneB_zero l))
      have Ht := Lib.hid (isOneB_zero l)
      go_enter Tryz.func24, Tryz.ntmps24
      go_wp2_with fail
      rw [← Hwb.out]
      go_wp2_with (first | (go_at_call 16; refine (sIsSet_any _ _ _ _ (hg _ hE)).mono ?_; rintro e w' ⟨rfl, hE'⟩; replace hE := hE.trans hE'; clear hE'))
      refine bodyPost_ret (v := .tuple #[.int .i64 0, .bool false]) (by simp [results, Tryz.results24, go_sem]) rfl ⟨by have h1 := Hs.out; have h2 := Ht.out; simp_all, hE0.trans hE⟩
    · have Ht := Lib.hid (isOneB_yes hs (by omega))
      have Hs := Lib.hid (dcF_yes Ht.out)
      obtain ⟨-, -, l3, l4⟩ := lowN_first h0 h2
      have h0' : ((n : Int) == 0) = false := by simp; omega
      have Hgr := Lib.hid hgr
      have hn := negF_bd hgr (lowN n)
      have hs1 := shiftF_bd hgr n (negF l (lowN n))
      clear hgr
      go_enter Tryz.func24, Tryz.ntmps24
      go_wp2_with fail
      rw [← Hwb.out]
      go_wp2_with (first | (go_at_call 16; refine (sIsSet_any _ _ _ _ (hg _ hE)).mono ?_; rintro e w' ⟨rfl, hE'⟩; replace hE := hE.trans hE'; clear hE'))
      replace hbx := fun U => hb _ (lat_ext wb U)
      (refine wp_region_lat (wb) (by kernel_rfl) (by kernel_rfl) hE ?_); (repeat (go_big_quiet_step (first | (go_at_call 62; exact Calls.lat (l2Negate_any _ _ _ _ (hg _ (lat_ext wb _)) (Hgr) ((by omega)))) | (go_at_call 61; exact Calls.lat (l3Shift_any _ _ _ _ _ (hg _ (lat_ext wb _)) (Hgr) (h2) (hn))) | (go_at_call 60; exact Calls.lat (l5Closure_any _ _ _ _ (hg _ (lat_ext wb _)) (Hgr) (hs1))) | (go_at_call 63; exact Calls.lat_same (l5Low_any _ (h0) (h2) _))))); (refine wpQuiet_nil ?_); (intro W hE'); (replace hE := lat_of hE'); (clear hE')
      go_wp2_with fail
      refine bodyPost_ret (v := .tuple #[.int .i64 (baseF l n : Int), .bool true]) (by simp [results, Tryz.results24, go_sem, baseF]) rfl ⟨by rw [Hs.out, Ht.out], hE0.trans hE⟩
end Go.Zz

/- Cosets of small doubling. -/
namespace Go.Zz
open Go.RowKit Go.Proofs
set_option maxHeartbeats 400000

def scD (l : List Int) (a : Int) : Int := if smallF l a then (sumF l a.toNat (oppF l a.toNat) : Int) else 0
def scS (l : List Int) (a : Int) : Int := if smallF l a then (sumF l a.toNat (sumF l a.toNat (oppF l a.toNat)) : Int) else 0
theorem sc_no {l : List Int} {a : Int} (h : smallF l a = false) : scD l a = 0 ∧ scS l a = 0 := by unfold scD scS; rw [h]; exact ⟨rfl, rfl⟩
theorem sc_yes {l : List Int} {n : Nat} (h : smallF l n = true) : scD l n = (sumF l n (oppF l n) : Int) ∧ scS l n = (sumF l n (sumF l n (oppF l n)) : Int) := by unfold scD scS; rw [h]; exact ⟨rfl, rfl⟩
theorem smallF_nat {l : List Int} {a : Int} (h : smallF l a = true) : ∃ n : Nat, a = n ∧ n < 2 ^ ord l ∧ n < 2 ^ 24 ∧ isGrp l = true ∧ isSetB l a = true := by
  unfold smallF at h
  have h1 := (Bool.and_eq_true_iff.1 (Bool.and_eq_true_iff.1 h).1).1
  obtain ⟨n, rfl, a, b, c⟩ := isSetB_nat h1
  exact ⟨n, rfl, a, b, c, h1⟩
--%call IsSmallV 8 ext IsSmallDoubling_val _ _ _ _ ({0}) ({1})
theorem IsSmallDoubling_val (v : Value) (l : List Int) (a : Int) (w : World) (h : Ints w v l) {b : Bool} (hb : smallF l a = b) :
    Calls Tryz.prog 8 #[.agg #[v], .int .i64 a] w fun e w' => e = .returned (.bool b) ∧ Ext w w' := by
  subst hb; exact IsSmallDoubling_any v l a w h
--%call sIsSmallV 29 ext sIsSmallDoubling_val _ _ _ _ ({0}) ({1})
theorem sIsSmallDoubling_val (v : Value) (l : List Int) (a : Int) (w : World) (h : Ints w v l) {b : Bool} (hb : smallF l a = b) :
    Calls Tryz.prog 29 #[.agg #[v], .int .i64 a] w fun e w' => e = .returned (.bool b) ∧ Ext w w' := by
  subst hb; exact sIsSmallDoubling_any v l a w h
--%call sDiff 30 ext sDifferenceOfSets_nat _ _ _ _ _ ({0}) ({1}) ({2})
theorem sDifferenceOfSets_nat (v : Value) (l : List Int) (a b : Nat) (w : World) (h : Ints w v l) (ha : isSetB l a = true) (hb' : isSetB l b = true) :
    Calls Tryz.prog 30 #[.agg #[v], .int .i64 a, .int .i64 b] w fun e w' => e = .returned (.int .i64 (sumF l a (oppF l b))) ∧ Ext w w' := by
  obtain ⟨wb, hwb⟩ : ∃ wb, wb = w.alloc (.cells #[v] 26) := ⟨_, rfl⟩
  have hE0 := (Ext.refl w).alloc (.cells #[v] 26)
  have hb := box_cell w v 26
  rw [← hwb] at hE0 hb
  have hg : ∀ W, Ext wb W → Ints W v l := fun W hW => h.ext (hE0.trans hW)
  have hE := Ext.refl wb
  have Hsz : Hid (w.heap.size + 1 = wb.heap.size) := Lib.hid (by rw [hwb]; simp [go_sem])
  have Hwb := Lib.hid hwb
  clear hwb h
  obtain ⟨a', e1, -, ha2, hgr⟩ := isSetB_nat ha
  obtain ⟨b', e2, -, hb2, -⟩ := isSetB_nat hb'
  obtain rfl : a = a' := by omega
  obtain rfl : b = b' := by omega
  have hbx := fun U => hb _ (lat_ext wb U)
  have hbx1 := hb wb hE
  have Hgr := Lib.hid hgr
  have ho := oppF_bd hgr b
  clear hgr e1 e2
  go_enter Tryz.func30, Tryz.ntmps30
  go_wp2_with fail
  rw [← Hwb.out]
  go_wp2_with (first | (go_at_call 16; (first | (with_reducible refine Calls.mono (sIsSet_val _ _ (a : Int) _ (hg _ hE) ha) ?_) | (with_reducible refine Calls.mono (sIsSet_val _ _ (b : Int) _ (hg _ hE) hb') ?_)); rintro e w' ⟨rfl, hE'⟩; replace hE := hE.trans hE'; clear hE'))
  (refine wp_region_lat (wb) (by kernel_rfl) (by kernel_rfl) hE ?_); (repeat (go_big_quiet_step (first | (go_at_call 67; exact Calls.lat (l3Negate_any _ _ _ _ (hg _ (lat_ext wb _)) (Hgr) (hb2))) | (go_at_call 31; exact Calls.lat (l4Sum_any _ _ _ _ _ (hg _ (lat_ext wb _)) (Hgr) (ha2) (ho)))))); (refine wpQuiet_nil ?_); (intro W hE'); (replace hE := lat_of hE'); (clear hE')
  go_wp2_with fail
  go_ret
  exact ⟨rfl, hE0.trans hE⟩
theorem SmallCoset_any (v : Value) (l : List Int) (a : Int) (w : World) (h : Ints w v l) :
    Calls Tryz.prog 6 #[.agg #[v], .int .i64 a] w fun e w' => e = .returned (.tuple #[.int .i64 (scD l a), .int .i64 (scS l a), .bool (smallF l a)]) ∧ Ext w w' := by
  obtain ⟨wb, hwb⟩ : ∃ wb, wb = w.alloc (.cells #[v] 26) := ⟨_, rfl⟩
  have hE0 := (Ext.refl w).alloc (.cells #[v] 26)
  have hb := box_cell w v 26
  rw [← hwb] at hE0 hb
  have hg : ∀ W, Ext wb W → Ints W v l := fun W hW => h.ext (hE0.trans hW)
  have hE := Ext.refl wb
  have Hsz : Hid (w.heap.size + 1 = wb.heap.size) := Lib.hid (by rw [hwb]; simp [go_sem])
  have Hwb := Lib.hid hwb
  clear hwb h
  have hbx := hb wb hE
  cases hs : smallF l a
  · have Hs := Lib.hid (sc_no hs)
    go_enter Tryz.func6, Tryz.ntmps6
    go_wp2_with fail
    rw [← Hwb.out]
    go_wp2_with (first | (go_at_call 8; refine (IsSmallDoubling_val _ _ _ _ (hg _ hE) (hs)).mono ?_; rintro e w' ⟨rfl, hE'⟩; replace hE := hE.trans hE'; clear hE'))
    refine bodyPost_ret (v := .tuple #[.int .i64 0, .int .i64 0, .bool false]) (by simp [results, Tryz.results6, go_sem]) rfl ⟨by rw [Hs.out.1, Hs.out.2], hE0.trans hE⟩
  · have Hs : Hid (∀ n : Nat, a = n → scD l a = (sumF l n (oppF l n) : Int) ∧ scS l a = (sumF l n (sumF l n (oppF l n)) : Int)) := Lib.hid (fun n e => by subst e; exact sc_yes hs)
    obtain ⟨n, hn, h1, h2, hgr, -⟩ := smallF_nat hs
    subst hn
    have Hgr := Lib.hid hgr
    have hd := sumF_bd hgr n (oppF l n)
    clear hgr
    go_enter Tryz.func6, Tryz.ntmps6
    go_wp2_with fail
    rw [← Hwb.out]
    go_wp2_with (first | (go_at_call 8; refine (IsSmallDoubling_val _ _ _ _ (hg _ hE) (hs)).mono ?_; rintro e w' ⟨rfl, hE'⟩; replace hE := hE.trans hE'; clear hE') | (go_at_call 27; refine (difference_any _ _ _ _ _ (hg _ hE) (Hgr) (h2) (h2)).mono ?_; rintro e w' ⟨rfl, hE'⟩; replace hE := hE.trans hE'; clear hE'))
    replace hbx := fun U => hb _ (lat_ext wb U)
    try (refine wp_region_lat (wb) (by kernel_rfl) (by kernel_rfl) hE ?_); (repeat (go_big_quiet_step (first | (go_at_call 28; exact Calls.lat (sum_any _ _ _ _ _ (hg _ (lat_ext wb _)) (Hgr) (h2) (hd)))))); (refine wpQuiet_nil ?_); (intro W hE'); (replace hE := lat_of hE'); (clear hE')
    go_wp2_with (first | (go_at_call 28; refine (sum_any _ _ _ _ _ (hg _ hE) (Hgr) (h2) (hd)).mono ?_; rintro e w' ⟨rfl, hE'⟩; replace hE := hE.trans hE'; clear hE'))
    refine bodyPost_ret (v := .tuple #[.int .i64 (sumF l n (oppF l n) : Int), .int .i64 (sumF l n (sumF l n (oppF l n)) : Int), .bool true]) (by simp [results, Tryz.results6, go_sem]) rfl ⟨by rw [(Hs.out n rfl).1, (Hs.out n rfl).2], hE0.trans hE⟩
theorem sSmallCoset_any (v : Value) (l : List Int) (a : Int) (w : World) (h : Ints w v l) :
    Calls Tryz.prog 7 #[.agg #[v], .int .i64 a] w fun e w' => e = .returned (.tuple #[.int .i64 (scD l a), .int .i64 (scS l a), .bool (smallF l a)]) ∧ Ext w w' := by
  obtain ⟨wb, hwb⟩ : ∃ wb, wb = w.alloc (.cells #[v] 26) := ⟨_, rfl⟩
  have hE0 := (Ext.refl w).alloc (.cells #[v] 26)
  have hb := box_cell w v 26
  rw [← hwb] at hE0 hb
  have hg : ∀ W, Ext wb W → Ints W v l := fun W hW => h.ext (hE0.trans hW)
  have hE := Ext.refl wb
  have Hsz : Hid (w.heap.size + 1 = wb.heap.size) := Lib.hid (by rw [hwb]; simp [go_sem])
  have Hwb := Lib.hid hwb
  clear hwb h
  have hbx := hb wb hE
  cases hs : smallF l a
  · have Hs := Lib.hid (sc_no hs)
    go_enter Tryz.func7, Tryz.ntmps7
    go_wp2_with fail
    rw [← Hwb.out]
    go_wp2_with (first | (go_at_call 29; refine (sIsSmallDoubling_val _ _ _ _ (hg _ hE) (hs)).mono ?_; rintro e w' ⟨rfl, hE'⟩; replace hE := hE.trans hE'; clear hE'))
    refine bodyPost_ret (v := .tuple #[.int .i64 0, .int .i64 0, .bool false]) (by simp [results, Tryz.results7, go_sem]) rfl ⟨by rw [Hs.out.1, Hs.out.2], hE0.trans hE⟩
  · have Hs : Hid (∀ n : Nat, a = n → scD l a = (sumF l n (oppF l n) : Int) ∧ scS l a = (sumF l n (sumF l n (oppF l n)) : Int)) := Lib.hid (fun n e => by subst e; exact sc_yes hs)
    obtain ⟨n, hn, h1, h2, hgr, hss⟩ := smallF_nat hs
    subst hn
    have Hgr := Lib.hid hgr
    have hd := sumF_bd hgr n (oppF l n)
    clear hgr
    go_enter Tryz.func7, Tryz.ntmps7
    go_wp2_with fail
    rw [← Hwb.out]
    go_wp2_with (first | (go_at_call 29; refine (sIsSmallDoubling_val _ _ _ _ (hg _ hE) (hs)).mono ?_; rintro e w' ⟨rfl, hE'⟩; replace hE := hE.trans hE'; clear hE') | (go_at_call 30; refine (sDifferenceOfSets_nat _ _ _ _ _ (hg _ hE) (hss) (hss)).mono ?_; rintro e w' ⟨rfl, hE'⟩; replace hE := hE.trans hE'; clear hE'))
    replace hbx := fun U => hb _ (lat_ext wb U)
    try (refine wp_region_lat (wb) (by kernel_rfl) (by kernel_rfl) hE ?_); (repeat (go_big_quiet_step (first | (go_at_call 31; exact Calls.lat (l4Sum_any _ _ _ _ _ (hg _ (lat_ext wb _)) (Hgr) (h2) (hd)))))); (refine wpQuiet_nil ?_); (intro W hE'); (replace hE := lat_of hE'); (clear hE')
    go_wp2_with (first | (go_at_call 31; refine (l4Sum_any _ _ _ _ _ (hg _ hE) (Hgr) (h2) (hd)).mono ?_; rintro e w' ⟨rfl, hE'⟩; replace hE := hE.trans hE'; clear hE'))
    refine bodyPost_ret (v := .tuple #[.int .i64 (sumF l n (oppF l n) : Int), .int .i64 (sumF l n (sumF l n (oppF l n)) : Int), .bool true]) (by simp [results, Tryz.results7, go_sem]) rfl ⟨by rw [(Hs.out n rfl).1, (Hs.out n rfl).2], hE0.trans hE⟩
end Go.Zz

/- Claims of cosets. -/
namespace Go.Zz
open Go.RowKit Go.Proofs
set_option maxHeartbeats 2000000
set_option maxRecDepth 20000

end Go.Zz

/- Claims of sums: stabilizers, pairs of Kneser's bound. -/
namespace Go.Zz
open Go.RowKit Go.Proofs
set_option maxHeartbeats 2000000
set_option maxRecDepth 20000

/-- the elements below k that shift a set onto itself -/
def stabTo (l : List Int) (a k : Nat) : Nat := bset ((List.range k).filter (fun x => decide (shiftF l a x = a)))
theorem stabTo_yes {l : List Int} {a k : Nat} (h : shiftF l a k = a) : stabTo l a (k + 1) = stabTo l a k ||| 2 ^ k := by
  unfold stabTo; rw [List.range_succ, List.filter_append]; simp only [List.filter_cons, List.filter_nil, h, decide_true, if_true]; exact bset_snoc _ _
theorem stabTo_no {l : List Int} {a k : Nat} (h : ¬ shiftF l a k = a) : stabTo l a (k + 1) = stabTo l a k := by
  unfold stabTo; rw [List.range_succ, List.filter_append]; simp [h]
theorem stabTo_lt (l : List Int) (a k : Nat) : stabTo l a k < 2 ^ k := bset_lt fun _ hx => List.mem_range.1 (List.mem_filter.1 hx).1
def stabF (l : List Int) (a : Nat) : Nat := stabTo l a (ord l)
theorem stabF_lt (l : List Int) (a : Nat) : stabF l a < 2 ^ ord l := stabTo_lt l a _
def fullB (l : List Int) (a b : Int) : Bool := isSetB l a && isSetB l b && !(a == 0) && !(b == 0)
theorem fullB_set {l : List Int} {a b : Int} (h : (isSetB l a && isSetB l b) = false) : fullB l a b = false := by unfold fullB; rw [h]; rfl
theorem fullB_nat {l : List Int} {a b : Int} (h : fullB l a b = true) : ∃ m n : Nat, a = m ∧ b = n ∧ m ≠ 0 ∧ n ≠ 0 ∧ m < 2 ^ ord l ∧ n < 2 ^ ord l ∧ m < 2 ^ 24 ∧ n < 2 ^ 24 ∧ isGrp l = true ∧ isSetB l a = true ∧ isSetB l b = true := by
  unfold fullB at h
  simp only [Bool.and_eq_true, Bool.not_eq_true', beq_eq_false_iff_ne] at h
  obtain ⟨⟨⟨h1, h2⟩, h3⟩, h4⟩ := h
  obtain ⟨m, rfl, a1, a2, hg⟩ := isSetB_nat h1
  obtain ⟨n, rfl, b1, b2, -⟩ := isSetB_nat h2
  exact ⟨m, n, rfl, rfl, by omega, by omega, a1, b1, a2, b2, hg, h1, h2⟩
theorem cnt_sum_ge {l : List Int} (h : isGrp l = true) {a b : Nat} (ha : a ≠ 0) (ha2 : a < 2 ^ ord l) (hb : b < 2 ^ ord l) : cnt b ≤ cnt (sumF l a b) := by
  obtain ⟨x, hx⟩ := bit_of_pos ha
  rw [← cnt_shift h hb x]
  refine cnt_mono fun i hi => ?_
  obtain ⟨y, hy, by_, rfl⟩ := testBit_shiftF.1 hi
  exact testBit_sumF.2 ⟨x, y, Nat.lt_of_lt_of_le (bit_lt ha2 hx) (ord_bd h).2, hx, hy, by_, rfl⟩

theorem StabilizerOf_nat (v : Value) (l : List Int) (a : Nat) (w : World) (h : Ints w v l) (hs : isSetB l a = true) :
    Calls Tryz.prog 80 #[.agg #[v], .int .i64 a] w fun e w' => e = .returned (.int .i64 (stabF l a : Nat)) ∧ Ext w w' := by
  obtain ⟨wb, hwb⟩ : ∃ wb, wb = w.alloc (.cells #[v] 26) := ⟨_, rfl⟩
  have hE0 := (Ext.refl w).alloc (.cells #[v] 26)
  have hb := box_cell w v 26
  rw [← hwb] at hE0 hb
  have hg : ∀ W, Ext wb W → Ints W v l := fun W hW => h.ext (hE0.trans hW)
  have hE := Ext.refl wb
  have Hsz : Hid (w.heap.size + 1 = wb.heap.size) := Lib.hid (by rw [hwb]; simp [go_sem])
  have Hwb := Lib.hid hwb
  clear hwb h
  obtain ⟨a', e1, -, ha2, hgr⟩ := isSetB_nat hs
  obtain rfl : a = a' := by omega
  have Hgr := Lib.hid hgr
  have hob := ord_bd hgr
  clear hgr e1
  go_enter Tryz.func80, Tryz.ntmps80
  go_wp2_with fail
  rw [← Hwb.out]
  go_wp2_with (first | (go_at_call 32; refine (IsSet_val _ _ _ _ (hg _ hE) (hs)).mono ?_; rintro e w' ⟨rfl, hE'⟩; replace hE := hE.trans hE'; clear hE') | (go_at_call 70; refine (OrderOf_grp _ _ _ (hg _ hE) (Hgr)).mono ?_; rintro e w' ⟨rfl, hE'⟩; replace hE := hE.trans hE'; clear hE'))
  clear hs
  go_loopw [5, 13] (fun ov xv wr => ∃ k : Nat, k ≤ ord l ∧ xv = .int .i64 k ∧ ov = .int .i64 (stabTo l a k : Nat) ∧ Ext wb wr) (fun _ x _ => ord l - (intOf x).toNat)
  case atStart => exact ⟨0, by omega, rfl, rfl, hE⟩
  case round =>
    clear hE
    obtain ⟨k, hk, rfl, rfl, hE⟩ := hrel
    have hbx := hb _ hE
    by_cases hlt : k < ord l
    · have hst : stabTo l a k < 2 ^ 24 := Nat.lt_of_lt_of_le (stabTo_lt l a k) (Nat.pow_le_pow_right (by omega) (by omega))
      have hsf := shiftF_bd Hgr.out a k
      have hs1 := ishl_one (n := k) (by omega)
      have hs2 := ior_pw hst (show k < 24 by omega)
      by_cases hq : shiftF l a k = a
      · have Hn := Lib.hid (stabTo_yes hq)
        have hqi : ((shiftF l a k : Int) == (a : Int)) = true := by rw [hq]; simp
        clear hq
        go_wp2_with (first | (go_at_call 66; refine (shift_any _ _ _ _ _ (hg _ hE) (Hgr) (ha2) ((by omega))).mono ?_; rintro e w' ⟨rfl, hE'⟩; replace hE := hE.trans hE'; clear hE'))
        go_roundw
        case rel => exact ⟨k + 1, by omega, by go_num, by rw [Hn.out], hE⟩
        case measure => (simp [intOf]; omega)
      · have Hn := Lib.hid (stabTo_no hq)
        have hqi : ((shiftF l a k : Int) == (a : Int)) = false := by simp; omega
        clear hq
        go_wp2_with (first | (go_at_call 66; refine (shift_any _ _ _ _ _ (hg _ hE) (Hgr) (ha2) ((by omega))).mono ?_; rintro e w' ⟨rfl, hE'⟩; replace hE := hE.trans hE'; clear hE'))
        go_roundw
        case rel => exact ⟨k + 1, by omega, by go_num, by rw [Hn.out], hE⟩
        case measure => (simp [intOf]; omega)
    · have hkl : k = ord l := by omega
      subst hkl
      go_wp2_with fail
      go_ret
      exact ⟨rfl, hE0.trans hE⟩
--%call l6Stabilizer 84 ext l6Stabilizer_any _ _ _ _ ({0}) ({1}) ({2})
theorem l6Stabilizer_any (v : Value) (l : List Int) (a : Nat) (w : World) (h : Ints w v l) (Hgr : Hid (isGrp l = true)) (ha2 : a < 2 ^ 24) :
    Calls Tryz.prog 84 #[.agg #[v], .int .i64 a] w fun e w' => e = .returned (.int .i64 (stabF l a : Nat)) ∧ Ext w w' := by
  obtain ⟨wb, hwb⟩ : ∃ wb, wb = w.alloc (.cells #[v] 26) := ⟨_, rfl⟩
  have hE0 := (Ext.refl w).alloc (.cells #[v] 26)
  have hb := box_cell w v 26
  rw [← hwb] at hE0 hb
  have hg : ∀ W, Ext wb W → Ints W v l := fun W hW => h.ext (hE0.trans hW)
  have hE := Ext.refl wb
  have Hsz : Hid (w.heap.size + 1 = wb.heap.size) := Lib.hid (by rw [hwb]; simp [go_sem])
  have Hwb := Lib.hid hwb
  clear hwb h
  have hob := ord_bd Hgr.out
  go_enter Tryz.func84, Tryz.ntmps84
  go_wp2_with fail
  rw [← Hwb.out]
  go_loopw [5, 6] (fun ov xv wr => ∃ k : Nat, k ≤ ord l ∧ xv = .int .i64 k ∧ ov = .int .i64 (stabTo l a k : Nat) ∧ Ext wb wr) (fun _ x _ => ord l - (intOf x).toNat)
  case atStart => exact ⟨0, by omega, rfl, rfl, hE⟩
  case round =>
    clear hE
    obtain ⟨k, hk, rfl, rfl, hE⟩ := hrel
    have hbx := hb _ hE
    by_cases hlt : k < ord l
    · have hst : stabTo l a k < 2 ^ 24 := Nat.lt_of_lt_of_le (stabTo_lt l a k) (Nat.pow_le_pow_right (by omega) (by omega))
      have hsf := shiftF_bd Hgr.out a k
      have hs1 := ishl_one (n := k) (by omega)
      have hs2 := ior_pw hst (show k < 24 by omega)
      by_cases hq : shiftF l a k = a
      · have Hn := Lib.hid (stabTo_yes hq)
        have hqi : ((shiftF l a k : Int) == (a : Int)) = true := by rw [hq]; simp
        clear hq
        go_wp2_with (first | (go_at_call 45; refine (l2Order_any _ _ _ (hg _ hE) (Hgr)).mono ?_; rintro e w' ⟨rfl, hE'⟩; replace hE := hE.trans hE'; clear hE') | (go_at_call 61; refine (l3Shift_any _ _ _ _ _ (hg _ hE) (Hgr) (ha2) ((by omega))).mono ?_; rintro e w' ⟨rfl, hE'⟩; replace hE := hE.trans hE'; clear hE'))
        go_roundw
        case rel => exact ⟨k + 1, by omega, by go_num, by rw [Hn.out], hE⟩
        case measure => (simp [intOf]; omega)
      · have Hn := Lib.hid (stabTo_no hq)
        have hqi : ((shiftF l a k : Int) == (a : Int)) = false := by simp; omega
        clear hq
        go_wp2_with (first | (go_at_call 45; refine (l2Order_any _ _ _ (hg _ hE) (Hgr)).mono ?_; rintro e w' ⟨rfl, hE'⟩; replace hE := hE.trans hE'; clear hE') | (go_at_call 61; refine (l3Shift_any _ _ _ _ _ (hg _ hE) (Hgr) (ha2) ((by omega))).mono ?_; rintro e w' ⟨rfl, hE'⟩; replace hE := hE.trans hE'; clear hE'))
        go_roundw
        case rel => exact ⟨k + 1, by omega, by go_num, by rw [Hn.out], hE⟩
        case measure => (simp [intOf]; omega)
    · have hkl : k = ord l := by omega
      subst hkl
      go_wp2_with (first | (go_at_call 45; refine (l2Order_any _ _ _ (hg _ hE) (Hgr)).mono ?_; rintro e w' ⟨rfl, hE'⟩; replace hE := hE.trans hE'; clear hE'))
      go_ret
      exact ⟨rfl, hE0.trans hE⟩
theorem areFull_any (v : Value) (l : List Int) (a b : Int) (w : World) (h : Ints w v l) :
    Calls Tryz.prog 56 #[.agg #[v], .int .i64 a, .int .i64 b] w fun e w' => e = .returned (.bool (fullB l a b)) ∧ Ext w w' := by
  obtain ⟨wb, hwb⟩ : ∃ wb, wb = w.alloc (.cells #[v] 26) := ⟨_, rfl⟩
  have hE0 := (Ext.refl w).alloc (.cells #[v] 26)
  have hb := box_cell w v 26
  rw [← hwb] at hE0 hb
  have hg : ∀ W, Ext wb W → Ints W v l := fun W hW => h.ext (hE0.trans hW)
  have hE := Ext.refl wb
  have Hsz : Hid (w.heap.size + 1 = wb.heap.size) := Lib.hid (by rw [hwb]; simp [go_sem])
  have Hwb := Lib.hid hwb
  clear hwb h
  have hbx := hb wb hE
  have har := areF_two l a b
  cases hs : (isSetB l a && isSetB l b)
  · have Hs := Lib.hid (fullB_set hs)
    rw [hs] at har
    clear hs
    go_enter Tryz.func56, Tryz.ntmps56
    go_wp2_with fail
    rw [← Hwb.out]; try rw [Hsz.out]
    go_wp2_with (first | (go_at_call 91; refine Calls.mono (areSets_val _ _ _ _ _ (hg _ (by repeat (first | assumption | exact Ext.refl _ | (apply And.left; assumption) | apply Ext.drew | apply Ext.alloc))) (ints_two _ _ _ _) har) ?_; rintro e w' ⟨rfl, hE'⟩; replace hE := hE.trans (Ext.trans (by repeat (first | assumption | exact Ext.refl _ | (apply And.left; assumption) | apply Ext.drew | apply Ext.alloc)) hE'); clear hE'))
    go_ret
    exact ⟨ret_bool Hs.out.symm, hE0.trans hE⟩
  · have Hs : Hid (fullB l a b = (!(a == 0) && !(b == 0))) := Lib.hid (by unfold fullB; rw [hs]; rfl)
    rw [hs] at har
    clear hs
    cases ha : (a == 0) <;> cases hb0 : (b == 0)
    all_goals
      have ha' : (a != 0) = !(a == 0) := rfl
      have hb' : (b != 0) = !(b == 0) := rfl
      rw [ha] at ha'
      rw [hb0] at hb'
      rw [ha, hb0] at Hs
      go_enter Tryz.func56, Tryz.ntmps56
      go_wp2_with fail
      rw [← Hwb.out]; try rw [Hsz.out]
      go_wp2_with (first | (go_at_call 91; refine Calls.mono (areSets_val _ _ _ _ _ (hg _ (by repeat (first | assumption | exact Ext.refl _ | (apply And.left; assumption) | apply Ext.drew | apply Ext.alloc))) (ints_two _ _ _ _) har) ?_; rintro e w' ⟨rfl, hE'⟩; replace hE := hE.trans (Ext.trans (by repeat (first | assumption | exact Ext.refl _ | (apply And.left; assumption) | apply Ext.drew | apply Ext.alloc)) hE'); clear hE'))
      go_ret
      exact ⟨ret_bool (by rw [Hs.out]; simp_all), hE0.trans hE⟩
/-- the bound of Kneser, as the reference writes it -/
def knF (l : List Int) (a b : Nat) : Int := (cnt (sumF l a (stabF l (sumF l a b))) : Int) + cnt (sumF l b (stabF l (sumF l a b))) - cnt (stabF l (sumF l a b))
theorem knF_pos {l : List Int} (h : isGrp l = true) {a b : Nat} (ha : a ≠ 0) (ha2 : a < 2 ^ ord l) : 0 ≤ knF l a b := by
  have := cnt_sum_ge h ha ha2 (stabF_lt l (sumF l a b))
  unfold knF; omega
def kpH (l : List Int) (a b : Nat) : Nat := stabF l (sumF l a b)
def csK (l : List Int) (a b : Int) : Int := if fullB l a b then 1 else 0
def csA (l : List Int) (a b : Int) : Int := if fullB l a b then a else 0
def csB (l : List Int) (a b : Int) : Int := if fullB l a b then b else 0
def csS (l : List Int) (a b : Int) : Int := if fullB l a b then (sumF l a.toNat b.toNat : Int) else 0
def csP (l : List Int) (a b : Int) : Int := if fullB l a b then (kpH l a.toNat b.toNat : Int) else 0
def csG (l : List Int) (a b : Int) : List Int := if fullB l a b then l else []
theorem cs_no {l : List Int} {a b : Int} (h : fullB l a b = false) : csK l a b = 0 ∧ csA l a b = 0 ∧ csB l a b = 0 ∧ csS l a b = 0 ∧ csP l a b = 0 ∧ csG l a b = [] := by
  unfold csK csA csB csS csP csG; rw [h]; exact ⟨rfl, rfl, rfl, rfl, rfl, rfl⟩
theorem cs_yes {l : List Int} {a b : Nat} (h : fullB l a b = true) : csK l a b = 1 ∧ csA l a b = a ∧ csB l a b = b ∧ csS l a b = (sumF l a b : Int) ∧ csP l a b = (kpH l a b : Int) ∧ csG l a b = l := by
  unfold csK csA csB csS csP csG; rw [h]; exact ⟨rfl, rfl, rfl, rfl, rfl, rfl⟩
end Go.Zz
