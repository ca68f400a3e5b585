/- Sums of sets, and the full set. -/
import Derived.Test.YtgjomoedgmofbaaC13
namespace Go.Zz
open Go.RowKit Go.Proofs
set_option maxHeartbeats 400000

--%call sum 113 ext sum_any _ _ _ _ _ ({0}) ({1}) ({2}) ({3})
theorem sum_any (v : Value) (l : List Int) (a b : Nat) (w : World) (h : Ints w v l) (Hgr : Hid (isGrp l = true)) (ha : a < 2 ^ 24) (hb' : b < 2 ^ 24) :
    Calls Try.prog 113 #[.agg #[v], .int .i64 a, .int .i64 b] w fun e w' => e = .returned (.int .i64 (sumF l a b)) ∧ Ext w w' := by
  obtain ⟨wb, hwb⟩ : ∃ wb, wb = w.alloc (.cells #[v] 26) := ⟨_, rfl⟩
  have hE0 := (Ext.refl w).alloc (.cells #[v] 26)
  have hb := box_cell w v 26
  rw [← hwb] at hE0 hb
  have hg : ∀ W, Ext wb W → Ints W v l := fun W hW => h.ext (hE0.trans hW)
  have Hwb := Lib.hid hwb
  clear hwb h
  go_enter Try.func113, Try.ntmps113
  go_wp2_with fail
  rw [← Hwb.out]
  go_wp2_with (first | (go_at_call 173; refine (members_any _ (ha) _).mono ?_; rintro e w1 ⟨v1, rfl, hL, hE1⟩; obtain ⟨aoL, cL, adrL, rfl, hadrL, hcellL⟩ := hL.ints.nats; have hixL := ints_index (c := cL) elI szI hadrL; clear hadrL))
  have hb1 : ∀ W, Ext w1 W → W.cell? ⟨w.heap.size, 0, none⟩ = some v := fun W hW => hb W (hE1.trans hW)
  have hg1 : ∀ W, Ext w1 W → Ints W v l := fun W hW => hg W (hE1.trans hW)
  have hE := Ext.refl w1
  clear hb hg hL
  have hall : ∀ y ∈ elems a, y < 24 := fun y hy => elems_lt hy
  have hlen := elems_len a
  have Hd := Lib.hid (sumTo_all l a b)
  generalize elems a = L at hcellL hixL hall hlen Hd ⊢
  go_loopw [7, 13] (fun ov i wr => ∃ k : Nat, k ≤ L.length ∧ i = .int .i64 k ∧ ov = .int .i64 ((sumTo l (L.take k) b : Nat) : Int) ∧ Ext w1 wr) (fun _ i _ => L.length - (intOf i).toNat)
  case atStart => exact ⟨0, by omega, rfl, by simp [sumTo, bset], hE⟩
  case round =>
    clear hE
    obtain ⟨k, hk, rfl, rfl, hE⟩ := hrel
    by_cases hlt : k < L.length
    · have hck := hcellL k _ hlt hE
      have hbx := hb1 _ hE
      have hby := hall _ (nthN_mem hlt)
      have Ht := Lib.hid (sumTo_snoc l (L.take k) (nthN L k) b)
      have Ht2 := Lib.hid (take_nthN L k hlt)
      have hs := sumTo_bd Hgr.out (L.take k) b
      have hf := shiftF_bd Hgr.out b (nthN L k)
      have hs2 := ior_nat (show sumTo l (L.take k) b < 2 ^ 63 by omega) (show shiftF l b (nthN L k) < 2 ^ 63 by omega)
      go_wp2_with (first | (go_at_call 157; refine (shift_any _ _ _ _ _ (hg1 _ hE) (Hgr) (hb') (hby)).mono ?_; rintro e w' ⟨rfl, hE'⟩; replace hE := hE.trans hE'; clear hE'))
      go_roundw
      case rel => exact ⟨k + 1, by omega, by go_num, by rw [Ht2.out, Ht.out], hE⟩
      case measure => (simp [intOf]; omega)
    · have hkl : k = L.length := by omega
      subst hkl
      go_wp2_with fail
      go_ret
      exact ⟨ret_int (by rw [List.take_length, Hd.out]), hE0.trans (hE1.trans hE)⟩

--%call l4Sum 118 ext l4Sum_any _ _ _ _ _ ({0}) ({1}) ({2}) ({3})
theorem l4Sum_any (v : Value) (l : List Int) (a b : Nat) (w : World) (h : Ints w v l) (Hgr : Hid (isGrp l = true)) (ha : a < 2 ^ 24) (hb' : b < 2 ^ 24) :
    Calls Try.prog 118 #[.agg #[v], .int .i64 a, .int .i64 b] w fun e w' => e = .returned (.int .i64 (sumF l a b)) ∧ Ext w w' := by
  obtain ⟨wb, hwb⟩ : ∃ wb, wb = w.alloc (.cells #[v] 26) := ⟨_, rfl⟩
  have hE0 := (Ext.refl w).alloc (.cells #[v] 26)
  have hb := box_cell w v 26
  rw [← hwb] at hE0 hb
  have hg : ∀ W, Ext wb W → Ints W v l := fun W hW => h.ext (hE0.trans hW)
  have Hwb := Lib.hid hwb
  clear hwb h
  go_enter Try.func118, Try.ntmps118
  go_wp2_with fail
  rw [← Hwb.out]
  go_wp2_with (first | (go_at_call 174; refine (l3List_any _ (hb') _).mono ?_; rintro e w1 ⟨v1, rfl, hL, hE1⟩; obtain ⟨aoL, cL, adrL, rfl, hadrL, hcellL⟩ := hL.ints.nats; have hixL := ints_index (c := cL) elI szI hadrL; clear hadrL))
  have hb1 : ∀ W, Ext w1 W → W.cell? ⟨w.heap.size, 0, none⟩ = some v := fun W hW => hb W (hE1.trans hW)
  have hg1 : ∀ W, Ext w1 W → Ints W v l := fun W hW => hg W (hE1.trans hW)
  have hE := Ext.refl w1
  clear hb hg hL
  have hall : ∀ y ∈ elems b, y < 24 := fun y hy => elems_lt hy
  have hlen := elems_len b
  have Hd : Hid (sumTo l (elems b) a = sumF l a b) := Lib.hid (by rw [sumTo_all, sumF_comm])
  generalize elems b = L at hcellL hixL hall hlen Hd ⊢
  go_loopw [7, 9] (fun ov i wr => ∃ k : Nat, k ≤ L.length ∧ i = .int .i64 k ∧ ov = .int .i64 ((sumTo l (L.take k) a : Nat) : Int) ∧ Ext w1 wr) (fun _ i _ => L.length - (intOf i).toNat)
  case atStart => exact ⟨0, by omega, rfl, by simp [sumTo, bset], hE⟩
  case round =>
    clear hE
    obtain ⟨k, hk, rfl, rfl, hE⟩ := hrel
    by_cases hlt : k < L.length
    · have hck := fun U => hcellL k _ hlt (lat_ext w1 U)
      have hbx := fun U => hb1 _ (lat_ext w1 U)
      have hby := hall _ (nthN_mem hlt)
      have Ht := Lib.hid (sumTo_snoc l (L.take k) (nthN L k) a)
      have Ht2 := Lib.hid (take_nthN L k hlt)
      have hs := sumTo_bd Hgr.out (L.take k) a
      have hf := shiftF_bd Hgr.out a (nthN L k)
      have hs2 := ior_nat (show sumTo l (L.take k) a < 2 ^ 63 by omega) (show shiftF l a (nthN L k) < 2 ^ 63 by omega)
      go_wp2_with fail
      (refine wp_region_lat (w1) (by kernel_rfl) (by kernel_rfl) hE ?_); (repeat (go_big_quiet_step (first | (go_at_call 160; exact Calls.lat (l3Shift_any _ _ _ _ _ (hg1 _ (lat_ext w1 _)) (Hgr) (ha) (hby)))))); (refine wpQuiet_nil ?_); (intro W hE'); (replace hE := lat_of hE'); (clear hE')
      go_wp2_with fail
      go_roundw
      case rel => exact ⟨k + 1, by omega, by go_num, by rw [Ht2.out, Ht.out], hE⟩
      case measure => (simp [intOf]; omega)
    · have hkl : k = L.length := by omega
      subst hkl
      go_wp2_with fail
      go_ret
      exact ⟨ret_int (by rw [List.take_length, Hd.out]), hE0.trans (hE1.trans hE)⟩

/-- all of the list are sets, and the group is one -/
theorem areF_no {l xs : List Int} {k : Nat} (hk : k < xs.length) (h : isSetB l (nth xs k) = false) : areF l xs = false := by
  unfold areF
  have : xs.all (isSetB l) = false := by
    cases e : xs.all (isSetB l)
    · rfl
    · rw [List.all_eq_true.1 e _ (nth_mem hk)] at h; cases h
  rw [this]; rfl
theorem areF_end {l xs : List Int} (h : ∀ j, j < xs.length → isSetB l (nth xs j) = true) : areF l xs = isGrp l := by
  unfold areF
  rw [show xs.all (isSetB l) = true from List.all_eq_true.2 fun x hx => by obtain ⟨k, hk, rfl⟩ := mem_nth hx; exact h k hk]; rfl
--%call areSets 158 ext areSets_any _ _ _ _ _ ({0}) ({1})
theorem areSets_any (v u : Value) (l xs : List Int) (w : World) (h : Ints w v l) (k : Ints w u xs) :
    Calls Try.prog 158 #[.agg #[v], u] w fun e w' => e = .returned (.bool (areF l xs)) ∧ Ext w w' := by
  obtain ⟨wb, hwb⟩ : ∃ wb, wb = w.alloc (.cells #[v] 26) := ⟨_, rfl⟩
  have hE0 := (Ext.refl w).alloc (.cells #[v] 26)
  have hb := box_cell w v 26
  rw [← hwb] at hE0 hb
  have hg : ∀ W, Ext wb W → Ints W v l := fun W hW => h.ext (hE0.trans hW)
  obtain ⟨ao, c, adr, rfl, hlen, hadr, hcell⟩ := k.op
  have hix := ints_index (c := c) elI szI hadr
  clear hadr k
  have hE := Ext.refl wb
  have Hwb := Lib.hid hwb
  clear hwb h
  go_enter Try.func158, Try.ntmps158
  go_wp2_with fail
  rw [← Hwb.out]
  go_loopw [9] (fun i wr => ∃ k : Nat, k ≤ xs.length ∧ i = .int .i64 k ∧ (∀ j, j < k → isSetB l (nth xs j) = true) ∧ Ext wb wr) (fun i _ => xs.length - (intOf i).toNat)
  case atStart => exact ⟨0, by omega, rfl, by omega, hE⟩
  case round =>
    clear hE
    obtain ⟨k, hk, rfl, hall, hE⟩ := hrel
    have Hall := Lib.hid hall
    clear hall
    have hbx := hb _ hE
    by_cases hlt : k < xs.length
    · have hck := hcell k _ hlt (hE0.trans hE)
      cases hs : isSetB l (nth xs k)
      · have Hs := Lib.hid (areF_no hlt hs)
        go_wp2_with (first | (go_at_call 144; refine (IsSet_any _ _ _ _ (hg _ hE)).mono ?_; rintro e w' ⟨rfl, hE'⟩; replace hE := hE.trans hE'; clear hE'))
        go_ret
        exact ⟨ret_bool Hs.out.symm, hE0.trans hE⟩
      · have Hs := Lib.hid hs
        go_wp2_with (first | (go_at_call 144; refine (IsSet_any _ _ _ _ (hg _ hE)).mono ?_; rintro e w' ⟨rfl, hE'⟩; replace hE := hE.trans hE'; clear hE'))
        go_roundw
        case rel => exact ⟨k + 1, by omega, by go_num, fun j hj => by by_cases e : j = k; (subst e; exact Hs.out); exact Hall.out j (by omega), hE⟩
        case measure => (simp [intOf]; omega)
    · have hkl : k = xs.length := by omega
      subst hkl
      go_wp2_with (first | (go_at_call 109; refine (IsGroup_any _ _ _ (hg _ hE)).mono ?_; rintro e w' ⟨rfl, hE'⟩; replace hE := hE.trans hE'; clear hE'))
      go_ret
      exact ⟨ret_bool (areF_end Hall.out).symm, hE0.trans hE⟩

/-- all elements, xs a set -/
def fullF (l : List Int) : Int := if isGrp l then ((pw (ord l) - 1 : Nat) : Int) else 0
theorem fullF_t {l : List Int} (h : isGrp l = true) : fullF l = ((pw (ord l) : Nat) : Int) - 1 := by
  unfold fullF; rw [if_pos h]; have := pw_pos (ord l); omega
theorem fullF_f {l : List Int} (h : isGrp l = false) : fullF l = 0 := by unfold fullF; rw [h]; rfl
--%call FullSet 155 ext FullSet_any _ _ _ ({0})
theorem FullSet_any (v : Value) (l : List Int) (w : World) (h : Ints w v l) :
    Calls Try.prog 155 #[.agg #[v]] w fun e w' => e = .returned (.int .i64 (fullF l)) ∧ Ext w w' := by
  have hE0 := (Ext.refl w).alloc (.cells #[v] 26)
  have hE := Ext.refl (w.alloc (.cells #[v] 26))
  have hb := box_cell w v 26
  have hg : ∀ W, Ext (w.alloc (.cells #[v] 26)) W → Ints W v l := fun W hW => h.ext (hE0.trans hW)
  clear h
  cases hs : isGrp l
  · have Hs := Lib.hid (fullF_f hs)
    go_enter Try.func155, Try.ntmps155
    go_wp2_with (first | (go_at_call 109; refine (IsGroup_any _ _ _ (hg _ hE)).mono ?_; rintro e w' ⟨rfl, hE'⟩; replace hE := hE.trans hE'; clear hE'))
    go_ret
    exact ⟨ret_int Hs.out.symm, hE0.trans hE⟩
  · have Hs := Lib.hid (fullF_t hs)
    have ho := ordF_t hs
    have hb1 := ord_bd hs
    have hp1 := pw_pos (ord l)
    have hp2 := pw_le hb1.2
    have hs1 := ishl_one (n := ord l) (by omega)
    go_enter Try.func155, Try.ntmps155
    go_wp2_with (first | (go_at_call 109; refine (IsGroup_any _ _ _ (hg _ hE)).mono ?_; rintro e w' ⟨rfl, hE'⟩; replace hE := hE.trans hE'; clear hE') | (go_at_call 108; refine (OrderOf_any _ _ _ (hg _ hE)).mono ?_; rintro e w' ⟨rfl, hE'⟩; replace hE := hE.trans hE'; clear hE'))
    go_ret
    exact ⟨ret_int Hs.out.symm, hE0.trans hE⟩
end Go.Zz
