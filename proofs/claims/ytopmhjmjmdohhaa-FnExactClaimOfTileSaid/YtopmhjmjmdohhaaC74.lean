/- Tilings: differences; the search of the reference. -/
import Derived.Test.YtopmhjmjmdohhaaC29
import Derived.Test.YtopmhjmjmdohhaaC38
import Derived.Test.YtopmhjmjmdohhaaAf
import Derived.Test.YtopmhjmjmdohhaaPf
import Derived.Deep.RegionHeld3
namespace Go.Zz
open Go.RowKit Go.Proofs
set_option maxHeartbeats 1000000
set_option maxRecDepth 4000

--%call minus 120 ext minus_any _ _ _ _ _ ({0}) ({1}) ({2}) ({3})
theorem minus_any (v : Value) (l : List Int) (x y : Nat) (w : World) (h : Ints w v l) (Hgr : Hid (isGrp l = true)) (hx : x < 16777216) (hy : y < 24) :
    Calls Try.prog 120 #[.agg #[v], .int .i64 x, .int .i64 y] w fun e w' => e = .returned (.int .i64 (addF l x (negF l y) : Nat)) ∧ Ext w w' := by
  obtain ⟨wb, hwb⟩ : ∃ wb, wb = w.alloc (.cells #[v] 24) := ⟨_, rfl⟩
  have hE0 := (Ext.refl w).alloc (.cells #[v] 24)
  have hb := box_cell w v 24
  rw [← hwb] at hE0 hb
  have hg : ∀ W, Ext wb W → Ints W v l := fun W hW => h.ext (hE0.trans hW)
  have hE := Ext.refl wb
  have Hsz : Hid (w.heap.size + 1 = wb.heap.size) := Lib.hid (by rw [hwb]; simp [go_sem])
  have Hwb := Lib.hid hwb
  clear hwb h
  have hbx := fun U => hb _ (lat_ext wb U)
  have hng : negF l y < 16777216 := by have := negF_lt l (isGrp_ords Hgr.out) y; have := (ord_bd Hgr.out).2; omega
  go_enter Try.func120, Try.ntmps120
  go_wp2_with fail
  rw [← Hwb.out]
  (refine wp_region_lat (wb) (by kernel_rfl) (by kernel_rfl) hE ?_); (repeat (go_big_quiet_step (first | (go_at_call 113; exact Calls.lat (negate_any _ _ _ _ (hg _ (lat_ext wb _)) (Hgr) ((by omega)))) | (go_at_call 124; exact Calls.lat (add_any _ _ _ _ _ (hg _ (lat_ext wb _)) (Hgr) (hx) (hng)))))); (refine wpQuiet_nil ?_); (intro W hE'); (replace hE := lat_of hE'); (clear hE')
  go_wp2_with fail
  go_ret
  exact ⟨rfl, hE0.trans hE⟩
theorem sSearch_any (v : Value) (l : List Int) (a : Nat) (Hgr : Hid (isGrp l = true)) (ha0 : a ≠ 0) (ha : a < 2 ^ ord l) : ∀ (f u b m : Nat) (w : World), Ints w v l → ord l < cnt u + f → u < 2 ^ ord l → b < 2 ^ 24 → 1 ≤ m → m ≤ 1000 →
    Calls Try.prog 102 #[.agg #[v], .int .i64 a, .int .i64 (fullN l : Nat), .int .i64 u, .int .i64 b, .int .i64 m] w fun e w' => ∃ v', e = .returned v' ∧ Own 3 w w' v' (castL (tlS l a f u b m)) ∧ Ext w w' := by
  intro f
  induction f with
  | zero => intro u b m w h hf hu; have := cnt_ord Hgr.out hu; omega
  | succ f ih =>
    intro u b m w h hf hu hb24 hm1 hm2
    have hob := ord_bd Hgr.out
    have hp24 := pow_ord Hgr.out
    have ha24 : a < 2 ^ 24 := Nat.lt_of_lt_of_le ha hp24
    have hu24 : u < 2 ^ 24 := Nat.lt_of_lt_of_le hu hp24
    obtain ⟨wb, hwb⟩ : ∃ wb, wb = w.alloc (.cells #[v] 24) := ⟨_, rfl⟩
    have hE0 := (Ext.refl w).alloc (.cells #[v] 24)
    have hb := box_cell w v 24
    rw [← hwb] at hE0 hb
    have hg : ∀ W, Ext wb W → Ints W v l := fun W hW => h.ext (hE0.trans hW)
    have hE := Ext.refl wb
    have Hsz : Hid (w.heap.size + 1 = wb.heap.size) := Lib.hid (by rw [hwb]; simp [go_sem])
    have Hwb := Lib.hid hwb
    clear hwb h
    have Hih := Lib.hid ih
    clear ih
    by_cases hfull : u = fullN l
    · have He := Lib.hid (tlS_full (l := l) (a := a) (f := f) (b := b) (m := m) hfull)
      have hq : ((u : Int) == (fullN l : Int)) = true := by rw [hfull]; simp
      clear hfull
      have hOl : Own 3 w (wb.alloc (.cells #[.int .i64 b] 3)) (.slice (some ⟨wb.heap.size, 0, none⟩) 1 1) (castL [b]) := own_made (TI := 3) (n := 1) (by omega) hE0 (castL [b]) rfl
      rw [← Hsz.out, Hwb.out] at hOl
      have hEl := hE0.alloc (.cells #[.int .i64 (b : Int)] 3)
      rw [Hwb.out] at hEl
      go_enter Try.func102, Try.ntmps102
      go_wp2_with fail
      go_ret
      exact ⟨_, rfl, by rw [He.out]; exact hOl, hEl⟩
    · have hq : ((u : Int) == (fullN l : Int)) = false := by rw [beq_eq_false_iff_ne]; omega
      have Hnf := Lib.hid hfull
      clear hfull
      obtain ⟨wc, hwc⟩ : ∃ wc, wc = wb.alloc (.cells #[] 3) := ⟨_, rfl⟩
      have hBk : Blk wc wb.heap.size 3 #[] := by rw [hwc]; exact Blk.new _ _ _
      have hEbc : Ext wb wc := by rw [hwc]; exact hE.alloc _
      have Hwc := Lib.hid hwc
      clear hwc
      go_enter Try.func102, Try.ntmps102
      go_wp2_with fail
      rw [← Hwb.out]
      go_loop [13] (fun xv => ∃ e : Nat, e ≤ ord l ∧ xv = .int .i64 e ∧ ∀ j, j < e → u.testBit j = true) (fun x => ord l - (intOf x).toNat)
      case atStart => exact ⟨0, by omega, rfl, by omega⟩
      case round =>
        obtain ⟨e, he, rfl, hall⟩ := hrel
        have hsh := ishr_nat (a := u) (n := e) (by omega)
        have hbt := bit_test' (a := u) (n := e) (by omega) (by omega)
        cases hbe : u.testBit e
        · rw [hbe] at hbt
          have helt : e < ord l := Classical.byContradiction fun hn => Hnf.out (not_full hu hall (by omega))
          have hlow : Hid (lowZ u = e) := Lib.hid (lowZ_is hall hbe (by omega))
          clear hall hbe
          go_wp2_with fail
          rw [← Hwc.out]
          clear hsh hbt
          refine (l3List_any a ha24 _).mono ?_
          rintro e1 w1 ⟨v1, rfl, hL, hE1⟩
          obtain ⟨aoL, cL, adrL, rfl, hadrL, hcellL⟩ := hL.ints.nats
          have hixL := ints_index (c := cL) elI szI hadrL
          have hE01 : Ext wb w1 := hEbc.trans hE1
          have hb1 : ∀ W, Ext w1 W → W.cell? ⟨w.heap.size, 0, none⟩ = some v := fun W hW => hb W (hE01.trans hW)
          have hg1 : ∀ W, Ext w1 W → Ints W v l := fun W hW => hg W (hE01.trans hW)
          have hOE : OwnE 3 wb w1 w1 (.slice (some ⟨wb.heap.size, 0, none⟩) 0 0) [] := OwnE.start w1 hBk hE1
          clear hadrL hb hg hL
          have hL24 : ∀ y ∈ elems a, y < 24 := fun y hy => elems_lt hy
          have hlen := elems_len a
          obtain ⟨L, hLdef⟩ : ∃ L, L = elems a := ⟨_, rfl⟩
          rw [← hLdef] at hcellL hixL hL24 hlen ⊢
          have HL := Lib.hid hLdef
          clear hLdef
          go_wp2_with fail
          go_loopw [14, 16] (fun ov i wr => ∃ k : Nat, k ≤ L.length ∧ i = .int .i64 k ∧ OwnE 3 wb w1 wr ov (castL (tlSto l a f u b m k)) ∧ Ext w1 wr) (fun _ i _ => L.length - (intOf i).toNat)
          case atStart => exact ⟨0, by omega, rfl, hOE, Ext.refl _⟩
          case round =>
            clear hOE hE
            obtain ⟨k, hk, rfl, hO, hEr⟩ := hrel
            obtain ⟨ab, cb, rfl, -⟩ := (hO.own hE01).shape
            obtain ⟨O, hOd⟩ : ∃ O, O = tlSto l a f u b m k := ⟨_, rfl⟩
            rw [← hOd] at hO ⊢
            rw [castL_len O] at hO ⊢
            by_cases hlt : k < L.length ∧ O.length < m
            · obtain ⟨hlt, hlm⟩ := hlt
              have hka : k < (elems a).length := by rw [← HL.out]; exact hlt
              have hX24 := hL24 _ (nthN_mem hlt)
              have Hel : Hid ((elems a)[k] = nthN L k) := Lib.hid (by rw [HL.out]; simp [nthN, List.getD, hka])
              obtain ⟨X, hX⟩ : ∃ X, X = nthN L k := ⟨_, rfl⟩
              have hck := fun U => hcellL k _ hlt (hEr.trans (lat_ext wr U))
              rw [← hX] at hck hX24 Hel
              have hbx := fun U => hb1 _ (hEr.trans (lat_ext wr U))
              have hng : negF l X < 16777216 := by have := negF_lt l (isGrp_ords Hgr.out) X; omega
              have hD24 : addF l e (negF l X) < 24 := Nat.lt_of_lt_of_le (addF_lt l (isGrp_ords Hgr.out) _ _) hob.2
              have HD : Hid (dF l u X = addF l e (negF l X)) := Lib.hid (by unfold dF; rw [hlow.out])
              obtain ⟨D, hD⟩ : ∃ D, D = addF l e (negF l X) := ⟨_, rfl⟩
              have hcA := fun W (hW : Ext wr W) => l2Add_any v l e (negF l X) W (hg1 _ (hEr.trans hW)) Hgr (by omega) hng
              rw [← hD] at hcA hD24 HD
              have hS24 := shiftF_bd Hgr.out a D
              obtain ⟨S, hS⟩ : ∃ S, S = shiftF l a D := ⟨_, rfl⟩
              have hcS := fun W (hW : Ext wr W) => l3Shift_any v l a D W (hg1 _ (hEr.trans hW)) Hgr ha24 hD24
              rw [← hS] at hcS hS24
              have hand : iand (S : Int) (u : Int) = ((S &&& u : Nat) : Int) := iand_nat (by omega) (by omega)
              have hmO : (O.length : Int) < (m : Int) := by omega
              have hE := Ext.refl wr
              clear hX hD
              cases hz : (((S &&& u : Nat) : Int) == 0)
              · have Hn : Hid (tlSto l a f u b m (k + 1) = O) := Lib.hid (by
                  rw [tlSto_no hka, hOd]
                  rw [Hel.out, HD.out, ← hS]
                  rw [beq_eq_false_iff_ne] at hz; omega)
                clear hOd hS
                go_wp2_with fail
                (refine wp_region_lat (wr) (by kernel_rfl) (by kernel_rfl) hE ?_); (repeat (go_big_quiet_step (first | (go_at_call 111; exact Calls.lat (l2Negate_any _ _ _ _ ((hg1 _ (hEr.trans (lat_ext wr _)))) (Hgr) ((by omega)))) | (go_at_call 112; exact Calls.lat (hcA _ (lat_ext wr _)))))); (refine wpQuiet_nil ?_); (intro W hE'); (replace hE := lat_of hE'); (clear hE')
                have hE11 := hEr.trans hE
                go_wp2_with (go_at_call 87; refine (hcS _ hE).mono ?_; rintro e' w' ⟨rfl, hE'⟩; replace hE := hE.trans hE'; clear hE')
                go_roundw
                case rel => exact ⟨k + 1, by omega, by go_num, by rw [Hn.out]; exact hO.ext hE, hEr.trans hE⟩
                case measure => (simp [intOf]; omega)
              · have hz' : S &&& u = 0 := by rw [beq_iff_eq] at hz; omega
                have hmore := tl_more Hgr.out ha0 ha hu D (by rw [← hS]; exact hz')
                rw [← hS] at hmore
                have Hn : Hid (tlSto l a f u b m (k + 1) = O ++ tlS l a f (u ||| S) (b ||| 2 ^ D) (m - O.length)) := Lib.hid (by
                  have := tlSto_yes (l := l) (a := a) (f := f) (u := u) (b := b) (m := m) hka (by rw [← hOd]; exact hlm) (by rw [Hel.out, HD.out, ← hS]; exact hz')
                  rw [this, ← hOd, Hel.out, HD.out, ← hS])
                have hbd : b ||| 2 ^ D < 2 ^ 24 := Nat.or_lt_two_pow hb24 (Nat.pow_lt_pow_right (by omega) hD24)
                have hcR := fun W (hI : Ints W v l) => Hih.out (u ||| S) (b ||| 2 ^ D) (m - O.length) W hI (by omega) hmore.1 hbd (by omega) (by omega)
                have hTl := tlS_len l a f (u ||| S) (b ||| 2 ^ D) (m - O.length) (by omega)
                obtain ⟨Y, hY⟩ : ∃ Y, Y = tlS l a f (u ||| S) (b ||| 2 ^ D) (m - O.length) := ⟨_, rfl⟩
                rw [← hY] at hcR hTl Hn
                have hs0 : ior (u : Int) (S : Int) = ((u ||| S : Nat) : Int) := ior_nat (by omega) (by omega)
                have hs1 := ishl_one (n := D) (by omega)
                have hs2 := ior_pw hb24 hD24
                have hsm : ((m - O.length : Nat) : Int) = (m : Int) - (O.length : Int) := by omega
                rw [hsm] at hcR
                have hwr : IntKind.i64.wrap ((m : Int) - (O.length : Int)) = (m : Int) - (O.length : Int) := by apply IntWalk.i64_in; omega
                have hln : (castL O).length + (castL Y).length ≤ 17592186044416 := by rw [castL_len, castL_len]; omega
                have Hcat : Hid (castL (O ++ Y) = castL O ++ castL Y) := Lib.hid (by simp [castL])
                clear hOd hS hY hmore hbd hTl hsm hz'
                go_wp2_with fail
                (refine wp_region_lat (wr) (by kernel_rfl) (by kernel_rfl) hE ?_); (repeat (go_big_quiet_step (first | (go_at_call 111; exact Calls.lat (l2Negate_any _ _ _ _ ((hg1 _ (hEr.trans (lat_ext wr _)))) (Hgr) ((by omega)))) | (go_at_call 112; exact Calls.lat (hcA _ (lat_ext wr _)))))); (refine wpQuiet_nil ?_); (intro W hE'); (replace hE := lat_of hE'); (clear hE')
                have hE11 := hEr.trans hE
                go_wp2_with (go_at_call 87; refine (hcS _ hE).mono ?_; rintro e' w2 ⟨rfl, hE'⟩; replace hE := hE.trans hE'; clear hE')
                have hE12 := hEr.trans hE
                have hD0 := (Ext.refl w2).drew
                first | (go_region_held3 (fun W => Ext w1 W ∧ W.cell? ⟨w.heap.size, 0, none⟩ = some v) (exact ⟨(by repeat (first | assumption | exact Ext.refl _ | (apply And.left; assumption) | apply Ext.drew | apply Ext.alloc)), hb1 _ (by repeat (first | assumption | exact Ext.refl _ | (apply And.left; assumption) | apply Ext.drew | apply Ext.alloc))⟩) (first | (go_at_call 102; ((with_reducible refine Calls.mono (hcR _ (hg1 _ (by repeat (first | assumption | exact Ext.refl _ | (apply And.left; assumption) | apply Ext.drew | apply Ext.alloc)))) ?_); rintro eH wH0 ⟨vH, rfl, hOn, hX0⟩; have hH0 := Ext.trans (a := w1) (by repeat (first | assumption | exact Ext.refl _ | (apply And.left; assumption) | apply Ext.drew | apply Ext.alloc)) hX0; have hR0 := Ext.trans (a := wr) (by repeat (first | assumption | exact Ext.refl _ | (apply And.left; assumption) | apply Ext.drew | apply Ext.alloc)) hX0)) | (refine step_appendsE slI rfl _ _ rfl wb w1 _ _ _ _ (hO.ext (by repeat (first | assumption | exact Ext.refl _ | (apply And.left; assumption) | apply Ext.drew | apply Ext.alloc))) hOn.ints hH0 hln rfl rfl ?_; intro vA wA hOA hXA hTA))) | (fail "the region")
                go_wp2_with fail
                go_roundw
                case rel => exact ⟨k + 1, by omega, by go_num, by rw [Hn.out, Hcat.out]; exact hOA, hXA⟩
                case measure => (simp [intOf]; omega)
            · have Hn : Hid (tlS l a (f + 1) u b m = O) := Lib.hid (by
                rw [hOd]
                exact tlS_stop Hnf.out (by rw [← HL.out]; exact hk) (by rw [← HL.out, ← hOd]; omega))
              have hE3 := hE0.trans (hE01.trans hEr)
              have hO' := (hO.own hE01).mono hE0
              clear hOd hO
              by_cases h1 : k < L.length
              all_goals
                have h2 : k < L.length → ¬ (O.length : Int) < (m : Int) := by omega
                try replace h2 := h2 h1
                clear hlt
                go_wp2_with fail
                go_ret
                exact ⟨_, rfl, by rw [Hn.out]; exact hO', hE3⟩
        · rw [hbe] at hbt
          have helt := bit_lt hu hbe
          go_wp2_with fail
          go_round
          case rel => exact ⟨e + 1, by omega, by go_num, fun j hj => by by_cases hje : j = e; (subst hje; exact hbe); exact hall j (by omega)⟩
          case measure => (simp [intOf]; omega)
end Go.Zz
