/- Boundaries and least expansions. -/
import Derived.Test.YtgjomoedgmofbaaC29
namespace Go.Zz
open Go.RowKit Go.Proofs
set_option maxHeartbeats 400000

theorem gcd_step (a b : Nat) : Nat.gcd b (a % b) = Nat.gcd a b := by rw [Nat.gcd_comm b, ← Nat.gcd_rec, Nat.gcd_comm]
theorem modc (a b : Nat) : ((a % b : Nat) : Int) = (a : Int) % (b : Int) := Int.natCast_emod a b
--%call gcd 231 ext gcd_any _ _ ({0}) ({1}) _
theorem gcd_any (a b : Nat) (ha : a ≤ 16777216) (hb : b ≤ 16777216) (w : World) :
    Calls Try.prog 231 #[.int .i64 a, .int .i64 b] w fun e w' => e = .returned (.int .i64 (Nat.gcd a b : Nat)) ∧ Ext w w' := by
  have hE := Ext.refl w
  go_enter Try.func231, Try.ntmps231
  go_wp2_with fail
  go_loopw [0, 1] (fun xv yv wr => ∃ x y : Nat, x ≤ 16777216 ∧ y ≤ 16777216 ∧ Nat.gcd x y = Nat.gcd a b ∧ xv = .int .i64 x ∧ yv = .int .i64 y ∧ Ext w wr) (fun _ yv _ => (intOf yv).toNat)
  case atStart => exact ⟨a, b, ha, hb, rfl, rfl, rfl, hE⟩
  case round =>
    clear hE
    obtain ⟨x, y, hx, hy, hg, rfl, rfl, hE⟩ := hrel
    have Hg := Lib.hid hg
    clear hg
    by_cases h0 : y = 0
    · subst h0
      go_wp2_with fail
      go_ret
      exact ⟨ret_int (by rw [← Hg.out, Nat.gcd_zero_right]), hE⟩
    · have hne : ((y : Int) != 0) = true := by simp; omega
      have hne2 : ((y : Int) == 0) = false := by simp; omega
      have hpos : 0 < (y : Int) := by omega
      have hm := Nat.mod_lt x (show 0 < y by omega)
      have hmc := modc x y
      have hmb : (x : Int) % (y : Int) ≤ 16777216 := by rw [← hmc]; omega
      have Hs := Lib.hid (gcd_step x y)
      go_wp2_with fail
      (refine wp_region_lat (w) (by kernel_rfl) (by kernel_rfl) hE ?_); (repeat (go_big_quiet_step (first | fail))); (refine wpQuiet_nil ?_); (intro W hE'); (replace hE := lat_of hE'); (clear hE')
      go_wp2_with fail
      go_roundw
      case rel => exact ⟨y, x % y, hy, by omega, by rw [Hs.out, Hg.out], rfl, by rw [hmc], hE⟩
      case measure => (simp only [intOf]; rw [← hmc, Int.toNat_natCast, Int.toNat_natCast]; exact hm)
--%call lowest 179 ext lowest_any _ _ ({0}) ({1}) ({2}) _
theorem lowest_any (a b : Nat) (ha : a ≤ 16777216) (hb : b ≤ 16777216) (hn : b ≠ 0) (w : World) :
    Calls Try.prog 179 #[.int .i64 a, .int .i64 b] w fun e w' => e = .returned (.tuple #[.int .i64 (a / Nat.gcd a b : Nat), .int .i64 (b / Nat.gcd a b : Nat)]) ∧ Ext w w' := by
  have hE := Ext.refl w
  have hg0 : 0 < Nat.gcd a b := Nat.gcd_pos_of_pos_right a (by omega)
  have hgb : Nat.gcd a b ≤ b := Nat.gcd_le_right a (by omega)
  have d1 : ((a / Nat.gcd a b : Nat) : Int) = (a : Int) / (Nat.gcd a b : Int) := Int.natCast_ediv _ _
  have d2 : ((b / Nat.gcd a b : Nat) : Int) = (b : Int) / (Nat.gcd a b : Int) := Int.natCast_ediv _ _
  have b1 := Nat.div_le_self a (Nat.gcd a b)
  have b2 := Nat.div_le_self b (Nat.gcd a b)
  have D1 := Lib.hid d1
  have D2 := Lib.hid d2
  have i1 : 0 ≤ (a : Int) / (Nat.gcd a b : Int) ∧ (a : Int) / (Nat.gcd a b : Int) ≤ 16777216 := ⟨by rw [← d1]; exact Int.natCast_nonneg _, by rw [← d1]; exact Int.ofNat_le.2 (Nat.le_trans b1 ha)⟩
  have i2 : 0 ≤ (b : Int) / (Nat.gcd a b : Int) ∧ (b : Int) / (Nat.gcd a b : Int) ≤ 16777216 := ⟨by rw [← d2]; exact Int.natCast_nonneg _, by rw [← d2]; exact Int.ofNat_le.2 (Nat.le_trans b2 hb)⟩
  have hne2 : ((Nat.gcd a b : Int) == 0) = false := by simp; omega
  have hpos : 0 < (Nat.gcd a b : Int) := by omega
  clear d1 d2 b1 b2
  go_enter Try.func179, Try.ntmps179
  go_wp2_with (first | (go_at_call 231; refine (gcd_any _ _ (ha) (hb) _).mono ?_; rintro e w' ⟨rfl, hE'⟩; replace hE := hE.trans hE'; clear hE'))
  (refine wp_region_lat (w) (by kernel_rfl) (by kernel_rfl) hE ?_); (repeat (go_big_quiet_step (first | fail))); (refine wpQuiet_nil ?_); (intro W hE'); (replace hE := lat_of hE'); (clear hE')
  go_wp2_with fail
  exact bodyPost_ret (v := .tuple #[.int .i64 (a / Nat.gcd a b : Nat), .int .i64 (b / Nat.gcd a b : Nat)]) (by simp [results, Try.results179, go_sem, D1.out, D2.out]) rfl ⟨rfl, hE⟩
--%call l11Divisor 180 ext l11Divisor_any _ _ ({0}) ({1}) _
theorem l11Divisor_any (a b : Nat) (ha : a ≤ 16777216) (hb : b ≤ 16777216) (w : World) :
    Calls Try.prog 180 #[.int .i64 a, .int .i64 b] w fun e w' => e = .returned (.int .i64 (Nat.gcd a b : Nat)) ∧ Ext w w' := by
  have hE := Ext.refl w
  go_enter Try.func180, Try.ntmps180
  go_wp2_with fail
  go_loopw [0, 1] (fun xv yv wr => ∃ x y : Nat, x ≤ 16777216 ∧ y ≤ 16777216 ∧ Nat.gcd x y = Nat.gcd a b ∧ xv = .int .i64 x ∧ yv = .int .i64 y ∧ Ext w wr) (fun _ yv _ => (intOf yv).toNat)
  case atStart => exact ⟨a, b, ha, hb, rfl, rfl, rfl, hE⟩
  case round =>
    clear hE
    obtain ⟨x, y, hx, hy, hg, rfl, rfl, hE⟩ := hrel
    have Hg := Lib.hid hg
    clear hg
    by_cases h0 : y = 0
    · subst h0
      go_wp2_with fail
      go_ret
      exact ⟨ret_int (by rw [← Hg.out, Nat.gcd_zero_right]), hE⟩
    · have hne2 : ((y : Int) == 0) = false := by simp; omega
      have hpos : 0 < (y : Int) := by omega
      have hm := Nat.mod_lt x (show 0 < y by omega)
      have hmc := modc x y
      have hmb : (x : Int) % (y : Int) ≤ 16777216 := by rw [← hmc]; omega
      have Hs := Lib.hid (gcd_step x y)
      go_wp2_with fail
      go_roundw
      case rel => exact ⟨y, x % y, hy, by omega, by rw [Hs.out, Hg.out], rfl, by rw [hmc], hE⟩
      case measure => (simp only [intOf]; rw [← hmc, Int.toNat_natCast, Int.toNat_natCast]; exact hm)

/-- joined pairs with one element in a set, the first in a list -/
def bdTo (l : List Int) (a x : Nat) (L : List Nat) : Nat := L.foldl (fun n y => n + cnt (andN (shiftF l a y) x)) 0
theorem bdTo_snoc (l : List Int) (a x : Nat) (L : List Nat) (y : Nat) : bdTo l a x (L ++ [y]) = bdTo l a x L + cnt (andN (shiftF l a y) x) := by unfold bdTo; rw [List.foldl_append]; rfl
theorem bdFold (l : List Int) (a x : Nat) : ∀ (L : List Nat) (s : Nat), L.foldl (fun n y => n + cnt (andN (shiftF l a y) x)) s ≤ s + 24 * L.length
  | [], s => by simp
  | y :: L, s => by
    rw [List.foldl_cons, List.length_cons]
    have := bdFold l a x L (s + cnt (andN (shiftF l a y) x))
    have := cnt_le (andN (shiftF l a y) x)
    omega
theorem bdTo_le (l : List Int) (a x : Nat) (L : List Nat) : bdTo l a x L ≤ 24 * L.length := by have := bdFold l a x L 0; unfold bdTo; omega
def bdN (l : List Int) (a x : Nat) : Nat := bdTo l a x (elems x)
theorem bdN_le (l : List Int) (a x : Nat) : bdN l a x ≤ 576 := by have := bdTo_le l a x (elems x); have := elems_len x; unfold bdN; omega
theorem andN_cast {a b : Nat} (ha : a < 2 ^ 24) : (a : Int) - ((a &&& b : Nat) : Int) = ((andN a b : Nat) : Int) := by
  have := andN_sub 24 a b ha; omega
--%call BoundaryOf 85 ext BoundaryOf_nat _ _ _ _ _ ({0}) ({1}) ({2})
theorem BoundaryOf_nat (v : Value) (l : List Int) (a x : Nat) (w : World) (h : Ints w v l) (hc : connB l a = true) (hx : isSetB l x = true) :
    Calls Try.prog 85 #[.agg #[v], .int .i64 a, .int .i64 x] w fun e w' => e = .returned (.int .i64 (bdN l a x : Nat)) ∧ Ext w w' := by
  obtain ⟨wb, hwb⟩ : ∃ wb, wb = w.alloc (.cells #[v] 26) := ⟨_, rfl⟩
  have hE0 := (Ext.refl w).alloc (.cells #[v] 26)
  have hb := box_cell w v 26
  rw [← hwb] at hE0 hb
  have hg : ∀ W, Ext wb W → Ints W v l := fun W hW => h.ext (hE0.trans hW)
  have hE := Ext.refl wb
  have Hsz : Hid (w.heap.size + 1 = wb.heap.size) := Lib.hid (by rw [hwb]; simp [go_sem])
  have Hwb := Lib.hid hwb
  clear hwb h
  obtain ⟨a', e1, -, ha2, hgr⟩ := connB_nat hc
  obtain ⟨x', e2, -, hx2, -⟩ := isSetB_nat hx
  obtain rfl : a = a' := by omega
  obtain rfl : x = x' := by omega
  have Hgr := Lib.hid hgr
  clear hgr e1 e2
  go_enter Try.func85, Try.ntmps85
  go_wp2_with fail
  rw [← Hwb.out]
  go_wp2_with (first | (go_at_call 92; refine (IsConnection_val _ _ _ _ (hg _ hE) (hc)).mono ?_; rintro e w' ⟨rfl, hE'⟩; replace hE := hE.trans hE'; clear hE') | (go_at_call 144; refine (IsSet_val _ _ _ _ (hg _ hE) (hx)).mono ?_; rintro e w' ⟨rfl, hE'⟩; replace hE := hE.trans hE'; clear hE'))
  refine (members_any x hx2 _).mono ?_
  rintro e w1 ⟨v1, rfl, hL, hE1⟩
  obtain ⟨aoL, cL, adrL, rfl, hadrL, hcellL⟩ := hL.ints.nats
  have hixL := ints_index (c := cL) elI szI hadrL
  clear hadrL
  have hb1 : ∀ W, Ext w1 W → W.cell? ⟨w.heap.size, 0, none⟩ = some v := fun W hW => hb W (hE.trans (hE1.trans hW))
  have hg1 : ∀ W, Ext w1 W → Ints W v l := fun W hW => hg W (hE.trans (hE1.trans hW))
  have eW := hE0.trans (hE.trans hE1)
  clear hb hg hL hE hE1 hc hx
  have hE := Ext.refl w1
  have hall : ∀ y ∈ elems x, y < 24 := fun y hy => elems_lt hy
  have hlen := elems_len x
  have Hd : Hid (bdTo l a x (elems x) = bdN l a x) := Lib.hid rfl
  generalize elems x = L at hcellL hixL hall hlen Hd ⊢
  go_wp2_with fail
  go_loopw [7, 23] (fun nv i wr => ∃ k : Nat, k ≤ L.length ∧ i = .int .i64 k ∧ nv = .int .i64 (bdTo l a x (L.take k) : Nat) ∧ Ext w1 wr) (fun _ i _ => L.length - (intOf i).toNat)
  case atStart => exact ⟨0, by omega, rfl, rfl, hE⟩
  case round =>
    clear hE
    obtain ⟨k, hk, rfl, rfl, hE⟩ := hrel
    by_cases hlt : k < L.length
    · have hck := hcellL k _ hlt hE
      have hbx := hb1 _ hE
      have hby := hall _ (nthN_mem hlt)
      have Ht := Lib.hid (bdTo_snoc l a x (L.take k) (nthN L k))
      have Ht2 := Lib.hid (take_nthN L k hlt)
      have hs := shiftF_bd Hgr.out a (nthN L k)
      have hand : iandn (shiftF l a (nthN L k) : Int) (x : Int) = ((andN (shiftF l a (nthN L k)) x : Nat) : Int) := iandn_nat (by omega) (by omega)
      have hab : andN (shiftF l a (nthN L k)) x < 2 ^ 24 := andN_lt hs
      have hcl := cnt_le (andN (shiftF l a (nthN L k)) x)
      have hbl := bdTo_le l a x (L.take k)
      have hlt2 : (L.take k).length ≤ 24 := by rw [List.length_take]; omega
      go_wp2_with (first | (go_at_call 157; refine (shift_any _ _ _ _ _ (hg1 _ hE) (Hgr) (ha2) (hby)).mono ?_; rintro e w' ⟨rfl, hE'⟩; replace hE := hE.trans hE'; clear hE') | (go_at_call 112; refine (bits_any _ (hab) _).mono ?_; rintro e w' ⟨rfl, rfl⟩))
      go_roundw
      case rel => exact ⟨k + 1, by omega, by go_num, by rw [Ht2.out, Ht.out]; go_num, hE⟩
      case measure => (simp [intOf]; omega)
    · have hkl : k = L.length := by omega
      subst hkl
      go_wp2_with fail
      go_ret
      exact ⟨ret_int (by rw [List.take_length, Hd.out]), eW.trans hE⟩
--%call sBoundaryOf 86 ext sBoundaryOf_nat _ _ _ _ _ ({0}) ({1}) ({2})
theorem sBoundaryOf_nat (v : Value) (l : List Int) (a x : Nat) (w : World) (h : Ints w v l) (hc : connB l a = true) (hx : isSetB l x = true) :
    Calls Try.prog 86 #[.agg #[v], .int .i64 a, .int .i64 x] w fun e w' => e = .returned (.int .i64 (bdN l a x : Nat)) ∧ Ext w w' := by
  obtain ⟨wb, hwb⟩ : ∃ wb, wb = w.alloc (.cells #[v] 26) := ⟨_, rfl⟩
  have hE0 := (Ext.refl w).alloc (.cells #[v] 26)
  have hb := box_cell w v 26
  rw [← hwb] at hE0 hb
  have hg : ∀ W, Ext wb W → Ints W v l := fun W hW => h.ext (hE0.trans hW)
  have hE := Ext.refl wb
  have Hsz : Hid (w.heap.size + 1 = wb.heap.size) := Lib.hid (by rw [hwb]; simp [go_sem])
  have Hwb := Lib.hid hwb
  clear hwb h
  obtain ⟨a', e1, -, ha2, hgr⟩ := connB_nat hc
  obtain ⟨x', e2, -, hx2, -⟩ := isSetB_nat hx
  obtain rfl : a = a' := by omega
  obtain rfl : x = x' := by omega
  have Hgr := Lib.hid hgr
  clear hgr e1 e2
  go_enter Try.func86, Try.ntmps86
  go_wp2_with fail
  rw [← Hwb.out]
  go_wp2_with (first | (go_at_call 165; refine (sIsConnection_val _ _ _ _ (hg _ hE) (hc)).mono ?_; rintro e w' ⟨rfl, hE'⟩; replace hE := hE.trans hE'; clear hE') | (go_at_call 119; refine (sIsSet_val _ _ _ _ (hg _ hE) (hx)).mono ?_; rintro e w' ⟨rfl, hE'⟩; replace hE := hE.trans hE'; clear hE'))
  refine (l3List_any x hx2 _).mono ?_
  rintro e w1 ⟨v1, rfl, hL, hE1⟩
  obtain ⟨aoL, cL, adrL, rfl, hadrL, hcellL⟩ := hL.ints.nats
  have hixL := ints_index (c := cL) elI szI hadrL
  clear hadrL
  have hb1 : ∀ W, Ext w1 W → W.cell? ⟨w.heap.size, 0, none⟩ = some v := fun W hW => hb W (hE.trans (hE1.trans hW))
  have hg1 : ∀ W, Ext w1 W → Ints W v l := fun W hW => hg W (hE.trans (hE1.trans hW))
  have eW := hE0.trans (hE.trans hE1)
  clear hb hg hL hE hE1 hc hx
  have hE := Ext.refl w1
  have hall : ∀ y ∈ elems x, y < 24 := fun y hy => elems_lt hy
  have hlen := elems_len x
  have Hd : Hid (bdTo l a x (elems x) = bdN l a x) := Lib.hid rfl
  generalize elems x = L at hcellL hixL hall hlen Hd ⊢
  go_wp2_with fail
  go_loopw [7, 9] (fun nv i wr => ∃ k : Nat, k ≤ L.length ∧ i = .int .i64 k ∧ nv = .int .i64 (bdTo l a x (L.take k) : Nat) ∧ Ext w1 wr) (fun _ i _ => L.length - (intOf i).toNat)
  case atStart => exact ⟨0, by omega, rfl, rfl, hE⟩
  case round =>
    clear hE
    obtain ⟨k, hk, rfl, rfl, hE⟩ := hrel
    by_cases hlt : k < L.length
    · have hck := fun U => hcellL k _ hlt (lat_ext w1 U)
      have hbx := fun U => hb1 _ (lat_ext w1 U)
      have hby := hall _ (nthN_mem hlt)
      have Ht := Lib.hid (bdTo_snoc l a x (L.take k) (nthN L k))
      have Ht2 := Lib.hid (take_nthN L k hlt)
      have hs := shiftF_bd Hgr.out a (nthN L k)
      have hand : iand (shiftF l a (nthN L k) : Int) (x : Int) = ((shiftF l a (nthN L k) &&& x : Nat) : Int) := iand_nat (by omega) (by omega)
      have hab : andN (shiftF l a (nthN L k)) x < 2 ^ 24 := andN_lt hs
      have hle : shiftF l a (nthN L k) &&& x ≤ shiftF l a (nthN L k) := Nat.and_le_left
      have Hc := Lib.hid (andN_cast (b := x) hs)
      have hcl := cnt_le (andN (shiftF l a (nthN L k)) x)
      have hbl := bdTo_le l a x (L.take k)
      have hlt2 : (L.take k).length ≤ 24 := by rw [List.length_take]; omega
      go_wp2_with fail
      (refine wp_region_lat (w1) (by kernel_rfl) (by kernel_rfl) hE ?_); (repeat (go_big_quiet_step (first | (go_at_call 160; exact Calls.lat (l3Shift_any _ _ _ _ _ (hg1 _ (lat_ext w1 _)) (Hgr) (ha2) (hby)))))); (refine wpQuiet_nil ?_); (intro W hE'); (replace hE := lat_of hE'); (clear hE')
      go_wp2_with (first | (go_at_call 117; rw [Hc.out]; refine (l3Bits_any _ hab _).mono ?_; rintro e w' ⟨rfl, rfl⟩))
      go_roundw
      case rel => exact ⟨k + 1, by omega, by go_num, by rw [Ht2.out, Ht.out]; go_num, hE⟩
      case measure => (simp [intOf]; omega)
    · have hkl : k = L.length := by omega
      subst hkl
      go_wp2_with fail
      go_ret
      exact ⟨ret_int (by rw [List.take_length, Hd.out]), eW.trans hE⟩
end Go.Zz
