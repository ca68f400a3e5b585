/- Shifted sets and sums of sets. -/
import Derived.Test.YtgjomoedgmofbaaC12
namespace Go.Zz
open Go.RowKit Go.Proofs
set_option maxHeartbeats 400000

theorem Ints.nats {w : World} {v : Value} {L : List Nat} (h : Ints w v (castL L)) :
    ∃ (ao : Option Addr) (c : Nat) (adr : Nat → Addr), v = .slice ao L.length c ∧
      (∀ i, i < L.length → ao = some (adr 0) ∧ adr i = (adr 0).add i) ∧
      (∀ i W, i < L.length → Ext w W → W.cell? (adr i) = some (.int .i64 (nthN L i : Int))) := by
  obtain ⟨ao, c, adr, rfl, _, h2, h3⟩ := h.op
  rw [castL_len] at h2 h3
  exact ⟨ao, c, adr, by rw [castL_len], h2, fun i W hi hW => by rw [h3 i W hi hW, nth_castL]⟩

/-- the shifts of the elements of a list -/
def shiftL (l : List Int) (L : List Nat) (x : Nat) : Nat := bset (L.map (fun y => addF l x y))
theorem shiftL_snoc (l : List Int) (L : List Nat) (y x : Nat) : shiftL l (L ++ [y]) x = shiftL l L x ||| 2 ^ addF l x y := by
  unfold shiftL; rw [List.map_append]; exact bset_snoc _ _
theorem shiftL_all (l : List Int) (a x : Nat) : shiftL l (elems a) x = shiftF l a x := rfl
theorem shiftL_bd {l : List Int} (h : isGrp l = true) (L : List Nat) (x : Nat) : shiftL l L x < 2 ^ 24 := by
  refine bset_lt fun y hy => ?_
  obtain ⟨z, _, rfl⟩ := List.mem_map.1 hy
  exact addF_bd h _ _
theorem shiftL_next (l : List Int) (a k x : Nat) (hb : a.testBit k = true) : shiftL l (elemsTo a (k + 1)) x = shiftL l (elemsTo a k) x ||| 2 ^ addF l x k := by
  rw [elemsTo_succ, hb, if_pos rfl, shiftL_snoc]
theorem shiftL_same (l : List Int) (a k x : Nat) (hb : a.testBit k = false) : shiftL l (elemsTo a (k + 1)) x = shiftL l (elemsTo a k) x := by
  rw [elemsTo_succ, hb]; simp

--%call shift 157 ext shift_any _ _ _ _ _ ({0}) ({1}) ({2}) ({3})
theorem shift_any (v : Value) (l : List Int) (a x : Nat) (w : World) (h : Ints w v l) (Hgr : Hid (isGrp l = true)) (ha : a < 2 ^ 24) (hx : x < 24) :
    Calls Try.prog 157 #[.agg #[v], .int .i64 a, .int .i64 x] w fun e w' => e = .returned (.int .i64 (shiftF l a x)) ∧ Ext w w' := by
  obtain ⟨wb, hwb⟩ : ∃ wb, wb = w.alloc (.cells #[v] 26) := ⟨_, rfl⟩
  have hE0 := (Ext.refl w).alloc (.cells #[v] 26)
  have hb := box_cell w v 26
  rw [← hwb] at hE0 hb
  have hg : ∀ W, Ext wb W → Ints W v l := fun W hW => h.ext (hE0.trans hW)
  have hE := Ext.refl wb
  have Hwb := Lib.hid hwb
  clear hwb h
  go_enter Try.func157, Try.ntmps157
  go_wp2_with fail
  rw [← Hwb.out]
  go_loopw [7, 8] (fun ov yv wr => ∃ k : Nat, k ≤ 24 ∧ yv = .int .i64 k ∧ ov = .int .i64 ((shiftL l (elemsTo a k) x : Nat) : Int) ∧ Ext wb wr) (fun _ y _ => 24 - (intOf y).toNat)
  case atStart => exact ⟨0, by omega, rfl, by simp [shiftL, elemsTo, bset], hE⟩
  case round =>
    clear hE
    obtain ⟨k, hk, rfl, rfl, hE⟩ := hrel
    have hbx := hb wr hE
    have hsh := ishr_nat (a := a) (n := k) (by omega)
    by_cases h0 : shr a k = 0
    · have he := Lib.hid (elemsTo_all hk (shr_zero.1 h0))
      have h0' : ((shr a k : Nat) : Int) = 0 := by rw [h0]; rfl
      clear h0
      go_wp2_with fail
      go_ret
      exact ⟨ret_int (by rw [he.out]; rfl), hE0.trans hE⟩
    · have hlt := shr_pos h0 ha
      have hne := ne_zero_t h0
      have hbt := bit_test' (a := a) (n := k) (by omega) (by omega)
      clear h0
      cases hb : a.testBit k
      · rw [hb] at hbt
        have Hb := Lib.hid (shiftL_same l a k x hb)
        clear hb
        go_wp2_with fail
        go_roundw
        case rel => exact ⟨k + 1, by omega, by go_num, by rw [Hb.out], hE⟩
        case measure => (simp [intOf]; omega)
      · rw [hb] at hbt
        have Hb := Lib.hid (shiftL_next l a k x hb)
        have hz := addF_bd Hgr.out x k
        have hs1 := ishl_one (n := addF l x k) (by omega)
        have hs2 := ior_pw (shiftL_bd Hgr.out (elemsTo a k) x) hz
        clear hb
        go_wp2_with (first | (go_at_call 223; refine (add_any _ _ _ _ _ (hg _ hE) (Hgr) ((by omega)) ((by omega))).mono ?_; rintro e w' ⟨rfl, hE'⟩; replace hE := hE.trans hE'; clear hE'))
        go_roundw
        case rel => exact ⟨k + 1, by omega, by go_num, by rw [Hb.out], hE⟩
        case measure => (simp [intOf]; omega)

--%call l3Shift 160 ext l3Shift_any _ _ _ _ _ ({0}) ({1}) ({2}) ({3})
theorem l3Shift_any (v : Value) (l : List Int) (a x : Nat) (w : World) (h : Ints w v l) (Hgr : Hid (isGrp l = true)) (ha : a < 2 ^ 24) (hx : x < 24) :
    Calls Try.prog 160 #[.agg #[v], .int .i64 a, .int .i64 x] w fun e w' => e = .returned (.int .i64 (shiftF l a x)) ∧ Ext w w' := by
  obtain ⟨wb, hwb⟩ : ∃ wb, wb = w.alloc (.cells #[v] 26) := ⟨_, rfl⟩
  have hE0 := (Ext.refl w).alloc (.cells #[v] 26)
  have hb := box_cell w v 26
  rw [← hwb] at hE0 hb
  have hg : ∀ W, Ext wb W → Ints W v l := fun W hW => h.ext (hE0.trans hW)
  have Hwb := Lib.hid hwb
  clear hwb h
  go_enter Try.func160, Try.ntmps160
  go_wp2_with fail
  rw [← Hwb.out]
  go_wp2_with (first | (go_at_call 174; refine (l3List_any _ (ha) _).mono ?_; rintro e w1 ⟨v1, rfl, hL, hE1⟩; obtain ⟨aoL, cL, adrL, rfl, hadrL, hcellL⟩ := hL.ints.nats; have hixL := ints_index (c := cL) elI szI hadrL; clear hadrL))
  have hb1 : ∀ W, Ext w1 W → W.cell? ⟨w.heap.size, 0, none⟩ = some v := fun W hW => hb W (hE1.trans hW)
  have hg1 : ∀ W, Ext w1 W → Ints W v l := fun W hW => hg W (hE1.trans hW)
  have hE := Ext.refl w1
  clear hb hg hL
  have hall : ∀ y ∈ elems a, y < 24 := fun y hy => elems_lt hy
  have hlen := elems_len a
  have Hd := Lib.hid (shiftL_all l a x)
  generalize elems a = L at hcellL hixL hall hlen Hd ⊢
  go_loopw [7, 9] (fun ov i wr => ∃ k : Nat, k ≤ L.length ∧ i = .int .i64 k ∧ ov = .int .i64 ((shiftL l (L.take k) x : Nat) : Int) ∧ Ext w1 wr) (fun _ i _ => L.length - (intOf i).toNat)
  case atStart => exact ⟨0, by omega, rfl, by simp [shiftL, bset], hE⟩
  case round =>
    clear hE
    obtain ⟨k, hk, rfl, rfl, hE⟩ := hrel
    by_cases hlt : k < L.length
    · have hck := fun U => hcellL k _ hlt (lat_ext w1 U)
      have hbx := fun U => hb1 _ (lat_ext w1 U)
      have hby := hall _ (nthN_mem hlt)
      have Ht := Lib.hid (shiftL_snoc l (L.take k) (nthN L k) x)
      have Ht2 := Lib.hid (take_nthN L k hlt)
      have hz := addF_bd Hgr.out x (nthN L k)
      have hcm := Lib.hid (addF_comm l (nthN L k) x)
      have hs1 := ishl_one (n := addF l (nthN L k) x) (by rw [hcm.out]; omega)
      have hs2 := ior_pw (shiftL_bd Hgr.out (L.take k) x) (show addF l (nthN L k) x < 24 by rw [hcm.out]; omega)
      go_wp2_with fail
      (refine wp_region_lat (w1) (by kernel_rfl) (by kernel_rfl) hE ?_); (repeat (go_big_quiet_step (first | (go_at_call 166; exact Calls.lat (l2Add_any _ _ _ _ _ (hg1 _ (lat_ext w1 _)) (Hgr) ((by omega)) ((by omega))))))); (refine wpQuiet_nil ?_); (intro W hE'); (replace hE := lat_of hE'); (clear hE')
      go_wp2_with fail
      go_roundw
      case rel => exact ⟨k + 1, by omega, by go_num, by rw [Ht2.out, Ht.out, hcm.out], hE⟩
      case measure => (simp [intOf]; omega)
    · have hkl : k = L.length := by omega
      subst hkl
      go_wp2_with fail
      go_ret
      exact ⟨ret_int (by rw [List.take_length, Hd.out]), hE0.trans (hE1.trans hE)⟩
end Go.Zz
