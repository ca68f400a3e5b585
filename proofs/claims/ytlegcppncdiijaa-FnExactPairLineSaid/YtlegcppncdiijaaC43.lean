/- Differences of progressions: the reference. -/
import Derived.Test.YtlegcppncdiijaaC42
import Derived.Test.YtlegcppncdiijaaAe
namespace Go.Zz
open Go.RowKit Go.Proofs
set_option maxHeartbeats 1000000
set_option maxRecDepth 20000

theorem sDifferencesOf_any (v : Value) (l : List Int) (a : Int) (w : World) (h : Ints w v l) :
    Calls Try.prog 239 #[.agg #[v], .int .i64 a] w fun e w' => ∃ u, e = .returned u ∧ Own 3 w w' u (difF l a) ∧ Ext w w' := by
  obtain ⟨wb, hwb⟩ : ∃ wb, wb = w.alloc (.cells #[v] 27) := ⟨_, rfl⟩
  have hE0 := (Ext.refl w).alloc (.cells #[v] 27)
  have hb := box_cell w v 27
  rw [← hwb] at hE0 hb
  have hg : ∀ W, Ext wb W → Ints W v l := fun W hW => h.ext (hE0.trans hW)
  have hE := Ext.refl wb
  have Hsz : Hid (w.heap.size + 1 = wb.heap.size) := Lib.hid (by rw [hwb]; simp [go_sem])
  have Hwb := Lib.hid hwb
  clear hwb h
  obtain ⟨wc, hwc⟩ : ∃ wc, wc = wb.alloc (.cells #[] 3) := ⟨_, rfl⟩
  have hO : Own 3 wb wc (.slice (some ⟨wb.heap.size, 0, none⟩) 0 0) [] := by rw [hwc]; exact own_made (by omega) hE [] rfl
  have hBk : Blk wc wb.heap.size 3 #[] := by rw [hwc]; exact Blk.new _ _ _
  replace hE : Ext wb wc := by rw [hwc]; exact hE.alloc _
  have hEc := Ext.refl wc
  have Hsz2 : Hid (wb.heap.size + 1 = wc.heap.size) := Lib.hid (by rw [hwc]; simp [go_sem])
  have Hwc := Lib.hid hwc
  clear hwc
  cases hs : isSetB l a
  · have Hs := Lib.hid (difF_no (isOneB_no hs))
    go_enter Try.func239, Try.ntmps239
    go_wp2_with fail
    rw [← Hwb.out, ← Hwc.out]; rw [Hsz.out]; try rw [Hsz2.out]
    go_wp2_with (first | (go_at_call 161; refine Calls.mono (sIsSet_val _ _ _ _ (hg _ (by repeat (first | assumption | exact Ext.refl _ | (apply And.left; assumption) | apply Ext.drew | apply Ext.alloc))) hs) ?_; rintro e w' ⟨rfl, hE'⟩; replace hO := hO.ext (Ext.trans (by repeat (first | assumption | exact Ext.refl _ | (apply And.left; assumption) | apply Ext.drew | apply Ext.alloc)) hE'); replace hE := hE.trans (Ext.trans (by repeat (first | assumption | exact Ext.refl _ | (apply And.left; assumption) | apply Ext.drew | apply Ext.alloc)) hE'); clear hE'))
    go_ret
    exact ⟨_, rfl, by rw [Hs.out]; exact hO.mono hE0, hE0.trans hE⟩
  · obtain ⟨n, rfl, h1, h2, hgr⟩ := isSetB_nat hs
    by_cases h0 : n = 0
    · subst h0
      have Hs := Lib.hid (difF_no (isOneB_zero l))
      go_enter Try.func239, Try.ntmps239
      go_wp2_with fail
      rw [← Hwb.out, ← Hwc.out]; rw [Hsz.out]; try rw [Hsz2.out]
      go_wp2_with (first | (go_at_call 161; refine Calls.mono (sIsSet_val _ _ _ _ (hg _ (by repeat (first | assumption | exact Ext.refl _ | (apply And.left; assumption) | apply Ext.drew | apply Ext.alloc))) hs) ?_; rintro e w' ⟨rfl, hE'⟩; replace hO := hO.ext (Ext.trans (by repeat (first | assumption | exact Ext.refl _ | (apply And.left; assumption) | apply Ext.drew | apply Ext.alloc)) hE'); replace hE := hE.trans (Ext.trans (by repeat (first | assumption | exact Ext.refl _ | (apply And.left; assumption) | apply Ext.drew | apply Ext.alloc)) hE'); clear hE'))
      go_ret
      exact ⟨_, rfl, by have := Hs.out; rw [show ((0 : Nat) : Int) = 0 from rfl, this]; exact hO.mono hE0, hE0.trans hE⟩
    · have Hs := Lib.hid (difF_yes (isOneB_yes hs (by omega)))
      have h0' : ((n : Int) == 0) = false := by simp; omega
      have Hgr := Lib.hid hgr
      have hob := ord_bd hgr
      have hcn := cnt_le n
      clear hgr h0
      go_enter Try.func239, Try.ntmps239
      go_wp2_with fail
      rw [← Hwb.out, ← Hwc.out]; rw [Hsz.out]; try rw [Hsz2.out]
      go_wp2_with (first | (go_at_call 161; refine Calls.mono (sIsSet_val _ _ _ _ (hg _ (by repeat (first | assumption | exact Ext.refl _ | (apply And.left; assumption) | apply Ext.drew | apply Ext.alloc))) hs) ?_; rintro e w' ⟨rfl, hE'⟩; replace hEc := hEc.trans (Ext.trans (by repeat (first | assumption | exact Ext.refl _ | (apply And.left; assumption) | apply Ext.drew | apply Ext.alloc)) hE'); replace hE := hE.trans (Ext.trans (by repeat (first | assumption | exact Ext.refl _ | (apply And.left; assumption) | apply Ext.drew | apply Ext.alloc)) hE'); clear hE') | (go_at_call 96; refine (l3Bits_any _ h2 _).mono ?_; rintro e w' ⟨rfl, rfl⟩) | (go_at_call 185; refine (l3List_any n h2 _).mono ?_; rintro e w1 ⟨v1, rfl, hL, hE1⟩; obtain ⟨aoL, cL, adrL, rfl, hadrL, hcellL⟩ := hL.ints.nats; have hixL := ints_index (c := cL) elI szI hadrL; clear hadrL))
      replace hO := OwnE.start w1 hBk (hEc.trans hE1)
      replace hE := hE.trans hE1
      have hb1 : ∀ W, Ext w1 W → W.cell? ⟨w.heap.size, 0, none⟩ = some v := fun W hW => hb W (hE.trans hW)
      have hg1 : ∀ W, Ext w1 W → Ints W v l := fun W hW => hg W (hE.trans hW)
      have hEb1 := hE
      clear hs h0' hL hE1 hE hBk hEc
      have hall : ∀ y ∈ elems n, y < 24 := fun y hy => elems_lt hy
      have hlen := elems_len n
      have Hdb : Hid (∀ k, diffB l n k = diffL l n k (elems n)) := Lib.hid (fun _ => rfl)
      generalize elems n = L at hcellL hixL hall hlen Hdb ⊢
      have hE := Ext.refl w1
      go_loopw [5, 8] (fun u x wr => ∃ k : Nat, k ≤ ord l ∧ x = .int .i64 k ∧ OwnE 3 wb w1 wr u (castL (difTo l n k)) ∧ Ext w1 wr) (fun _ x _ => ord l - (intOf x).toNat)
      case atStart => exact ⟨0, by omega, rfl, hO, hE⟩
      case round =>
        clear hE hO
        obtain ⟨k, hk, rfl, hO, hE⟩ := hrel
        by_cases hlt : k < ord l
        · have hln : (castL (difTo l n k)).length ≤ 24 := by rw [castL_len]; have := difTo_len l n k; omega
          have hbx := hb1 _ hE
          go_wp2_with (first | (go_at_call 136; refine (l2Order_any _ _ _ (hg1 _ hE) Hgr).mono ?_; rintro e w' ⟨rfl, hE'⟩; replace hO := hO.ext hE'; replace hE := hE.trans hE'; clear hE'))
          clear hbx
          go_loopw [9, 10] (fun fv i wq => ∃ (j : Nat) (f : Bool), j ≤ L.length ∧ i = .int .i64 j ∧ fv = .bool f ∧ (f = true → diffL l n k L = true) ∧ (f = false → ∀ q, q < j → prSet l (nthN L q) k (cnt n) ≠ n) ∧ OwnE 3 wb w1 wq u5 (castL (difTo l n k)) ∧ Ext w1 wq) (fun fv i _ => L.length - (intOf i).toNat)
          case atStart => exact ⟨0, false, by omega, rfl, rfl, by simp, by omega, hO, hE⟩
          case round =>
            clear hO hE
            obtain ⟨j, f, hj, rfl, rfl, hyes, hno, hO, hE⟩ := hrel
            have Hyes := Lib.hid hyes
            have Hno := Lib.hid hno
            clear hyes hno
            cases f
            · by_cases hlt2 : j < L.length
              · have hx24 := hall _ (nthN_mem hlt2)
                have hpb := prSet_bd Hgr.out hx24 k (cnt n)
                by_cases hq : prSet l (nthN L j) k (cnt n) = n
                · have Hat := Lib.hid (diffL_at hlt2 hq)
                  have hqi : ((prSet l (nthN L j) k (cnt n) : Int) == (n : Int)) = true := by rw [hq]; simp
                  clear hq
                  have hck := fun U => hcellL j _ hlt2 (hE.trans (lat_ext wr U))
                  have hbx := lat_cell (hb1 _ hE)
                  have hgW : ∀ W, Ext wr W → Ints W v l := fun W hW => hg1 W (hE.trans hW)
                  have hE1 := hE
                  clear hE
                  have hE := Ext.refl wr
                  go_wp2_with fail
                  (refine wp_region_lat (wr) (by kernel_rfl) (by kernel_rfl) hE ?_); (repeat (go_big_quiet_step (first | (go_at_call 253; exact Calls.lat (l10Progression_any _ _ _ _ _ _ (hgW _ (lat_ext wr _)) Hgr hx24 (by omega) hcn))))); (refine wpQuiet_nil ?_); (intro W hE'); (replace hE := lat_of hE'); (clear hE')
                  replace hO := hO.ext hE
                  replace hE := hE1.trans hE
                  go_wp2_with fail
                  go_roundw
                  case rel => exact ⟨j + 1, true, by omega, by go_num, rfl, fun _ => Hat.out, by simp, hO, hE⟩
                  case measure => (simp [intOf]; omega)
                · have hqi : ((prSet l (nthN L j) k (cnt n) : Int) == (n : Int)) = false := by simp; omega
                  have Hq := Lib.hid hq
                  clear hq
                  have hck := fun U => hcellL j _ hlt2 (hE.trans (lat_ext wr U))
                  have hbx := lat_cell (hb1 _ hE)
                  have hgW : ∀ W, Ext wr W → Ints W v l := fun W hW => hg1 W (hE.trans hW)
                  have hE1 := hE
                  clear hE
                  have hE := Ext.refl wr
                  go_wp2_with fail
                  (refine wp_region_lat (wr) (by kernel_rfl) (by kernel_rfl) hE ?_); (repeat (go_big_quiet_step (first | (go_at_call 253; exact Calls.lat (l10Progression_any _ _ _ _ _ _ (hgW _ (lat_ext wr _)) Hgr hx24 (by omega) hcn))))); (refine wpQuiet_nil ?_); (intro W hE'); (replace hE := lat_of hE'); (clear hE')
                  replace hO := hO.ext hE
                  replace hE := hE1.trans hE
                  go_wp2_with fail
                  go_roundw
                  case rel => exact ⟨j + 1, false, by omega, by go_num, rfl, by simp, fun _ q hq => by by_cases e : q = j; (subst e; exact Hq.out); exact Hno.out (by simp) q (by omega), hO, hE⟩
                  case measure => (simp [intOf]; omega)
              · have hjl : j = L.length := by omega
                subst hjl
                have Hn := Lib.hid (difTo_no (by rw [Hdb.out]; exact diffL_take (Hno.out rfl)))
                go_wp2_with fail
                go_roundw
                case rel => exact ⟨k + 1, by omega, by go_num, by rw [Hn.out]; exact hO, hE⟩
                case measure => (simp [intOf]; omega)
            · have Hn := Lib.hid (difTo_yes (by rw [Hdb.out]; exact Hyes.out rfl))
              by_cases hlt2 : j < L.length
              all_goals
                go_wp2_with (at_builtin; refine wp_append1e slI rfl _ _ rfl wb w1 _ _ _ _ hO hE (by omega) rfl rfl ?_; intro v1 w1' hO1 hE1)
                go_roundw
                case rel => exact ⟨k + 1, by omega, by go_num, by rw [Hn.out, castL_snoc]; exact Or.inr hO1, hE1⟩
                case measure => (simp [intOf]; omega)
        · have hkl : k = ord l := by omega
          subst hkl
          have hbx := hb1 _ hE
          go_wp2_with (first | (go_at_call 136; refine (l2Order_any _ _ _ (hg1 _ hE) Hgr).mono ?_; rintro e w' ⟨rfl, hE'⟩; replace hO := hO.ext hE'; replace hE := hE.trans hE'; clear hE'))
          go_ret
          exact ⟨_, rfl, by rw [Hs.out]; exact (hO.own hEb1).mono hE0, hE0.trans (hEb1.trans hE)⟩
end Go.Zz
