/- Boxes. -/
import Derived.Test.YtgkojfjbfmpaaaaGr10
namespace Go.Zz
open Go.RowKit Go.Proofs
set_option maxHeartbeats 4000000
set_option maxRecDepth 20000

theorem progression0_any (v : Value) (l : List Int) (d n : Nat) (w : World) (h : Ints w v l) (Hgr : Hid (isGrp l = true)) (hd : d < 24) (hn : n ≤ 24) :
    Calls Try.prog 195 #[.agg #[v], .int .i64 0, .int .i64 d, .int .i64 n] w fun e w' => e = .returned (.int .i64 (prSet l 0 d n : Nat)) ∧ Ext w w' := progression_any v l 0 d n w h Hgr (by omega) hd hn
theorem l10Progression0_any (v : Value) (l : List Int) (d n : Nat) (w : World) (h : Ints w v l) (Hgr : Hid (isGrp l = true)) (hd : d < 24) (hn : n ≤ 24) :
    Calls Try.prog 194 #[.agg #[v], .int .i64 0, .int .i64 d, .int .i64 n] w fun e w' => e = .returned (.int .i64 (prSet l 0 d n : Nat)) ∧ Ext w w' := l10Progression_any v l 0 d n w h Hgr (by omega) hd hn
/-- two values and a bool -/
def BoxP (b : Bool) (w : World) (e : Ending) (w' : World) : Prop := ∃ p q, e = .returned (.tuple #[p, q, .bool b]) ∧ Ext w w'
theorem quo_val {a m : Nat} (ha : a ≤ 24) : wrap64 ((a : Int) / (m : Int)) = ((a / m : Nat) : Int) := by
  rw [← Int.natCast_ediv]
  exact wrapN _ (by have := Nat.div_le_self a m; omega)
theorem FindBox_any (v : Value) (l : List Int) (a : Int) (w : World) (h : Ints w v l) :
    Calls Try.prog 183 #[.agg #[v], .int .i64 a] w (BoxP (boxB l a) w) := by
  obtain ⟨wb, hwb⟩ : ∃ wb, wb = w.alloc (.cells #[v] 26) := ⟨_, rfl⟩
  have hE0 := (Ext.refl w).alloc (.cells #[v] 26)
  have hb := box_cell w v 26
  rw [← hwb] at hE0 hb
  have hg : ∀ W, Ext wb W → Ints W v l := fun W hW => h.ext (hE0.trans hW)
  have hE := Ext.refl wb
  have Hsz : Hid (w.heap.size + 1 = wb.heap.size) := Lib.hid (by rw [hwb]; simp [go_sem])
  have Hwb := Lib.hid hwb
  clear hwb h
  have hbx := hb wb hE
  cases hs : isSetB l a
  · have Hs := Lib.hid (boxB_no (isOneB_no hs))
    go_enter Try.func183, Try.ntmps183
    go_wp2_with fail
    rw [← Hwb.out]
    refine (OrderOf_any _ _ _ (hg _ hE)).mono ?_
    rintro e w1 ⟨rfl, hE1⟩
    have hbx1 := hb _ hE1
    go_wp2_with fail
    refine (IsSet_val _ _ _ _ (hg _ hE1) hs).mono ?_
    rintro e wZ ⟨rfl, hE2⟩
    have hEZ := hE0.trans (hE1.trans hE2)
    go_wp2_with fail
    exact bodyPost_ret (v := .tuple #[.slice (some ⟨wZ.heap.size, 0, none⟩) 0 0, .slice (some ⟨wZ.heap.size + 1, 0, none⟩) 0 0, .bool false]) (by simp [results, Try.results183, go_sem]) rfl ⟨_, _, by rw [Hs.out], (hEZ.alloc _).alloc _⟩
  · obtain ⟨n, rfl, h1, h2, hgr⟩ := isSetB_nat hs
    by_cases h0 : n = 0
    · subst h0
      have Hs : Hid (boxB l ((0 : Nat) : Int) = false) := Lib.hid (boxB_no (isOneB_zero l))
      go_enter Try.func183, Try.ntmps183
      go_wp2_with fail
      rw [← Hwb.out]
      refine (OrderOf_any _ _ _ (hg _ hE)).mono ?_
      rintro e w1 ⟨rfl, hE1⟩
      have hbx1 := hb _ hE1
      go_wp2_with fail
      refine (IsSet_val _ _ _ _ (hg _ hE1) hs).mono ?_
      rintro e wZ ⟨rfl, hE2⟩
      have hEZ := hE0.trans (hE1.trans hE2)
      go_wp2_with fail
      exact bodyPost_ret (v := .tuple #[.slice (some ⟨wZ.heap.size, 0, none⟩) 0 0, .slice (some ⟨wZ.heap.size + 1, 0, none⟩) 0 0, .bool false]) (by simp [results, Try.results183, go_sem]) rfl ⟨_, _, by rw [Hs.out], (hEZ.alloc _).alloc _⟩
    · have Hs := Lib.hid (boxB_yes (isOneB_yes hs (by omega)))
      have h0' : ((n : Int) == 0) = false := by simp; omega
      have Hgr := Lib.hid hgr
      have hob := ord_bd hgr
      have hcn := cnt_le n
      clear hgr h0 h1
      go_enter Try.func183, Try.ntmps183
      go_wp2_with fail
      rw [← Hwb.out]
      refine (OrderOf_grp _ _ _ (hg _ hE) Hgr).mono ?_
      rintro e w1 ⟨rfl, hE1⟩
      have hbx1 := hb _ hE1
      go_wp2_with fail
      refine (IsSet_val _ _ _ _ (hg _ hE1) hs).mono ?_
      rintro e w2 ⟨rfl, hE2⟩
      go_wp2_with (first | (go_at_call 83; refine (bits_any _ (h2) _).mono ?_; rintro e w' ⟨rfl, rfl⟩))
      have eW := hE0.trans (hE1.trans hE2)
      have hb1 : ∀ W, Ext w2 W → W.cell? ⟨w.heap.size, 0, none⟩ = some v := fun W hW => hb W (hE1.trans (hE2.trans hW))
      have hg1 : ∀ W, Ext w2 W → Ints W v l := fun W hW => hg W (hE1.trans (hE2.trans hW))
      clear hb hg hbx hbx1 hE hE1 hE2 h0' hs
      have hE := Ext.refl w2
      go_loopw [9] (fun s wr => ∃ m : Nat, 1 ≤ m ∧ m ≤ 5 ∧ s = .int .i64 m ∧ (∀ m', 1 ≤ m' → m' < m → bxM l n m' = false) ∧ Ext w2 wr) (fun s _ => 5 - (intOf s).toNat)
      case atStart => exact ⟨1, by omega, by omega, rfl, by omega, hE⟩
      case round =>
        clear hE
        obtain ⟨m, hm1, hm5, rfl, hno, hE⟩ := hrel
        have Hno1 := Lib.hid hno
        clear hno
        have hmm0 : 0 ≤ (m : Int) * (m : Int) ∧ (m : Int) * (m : Int) ≤ 25 := by
          have := Nat.mul_le_mul hm5 hm5
          rw [← Int.natCast_mul]; omega
        obtain ⟨hmm0, hmm1⟩ := hmm0
        by_cases hlt : m * m ≤ cnt n
        · have hlti : (m : Int) * (m : Int) ≤ (cnt n : Int) := by rw [← Int.natCast_mul]; omega
          have hm4 : m ≤ 4 := by
            rcases Nat.lt_or_ge 4 m with c | c
            · have := Nat.mul_le_mul c c; omega
            · exact c
          have Hlt := Lib.hid hlt
          clear hlt
          by_cases hmd : cnt n % m = 0
          · have hmod : ((cnt n : Int) % (m : Int) != 0) = false := by rw [← Int.natCast_emod, hmd]; rfl
            have hq1 := quo_val (m := m) hcn
            have hm0 : ((m : Int) == 0) = false := by simp; omega
            have Hmd := Lib.hid hmd
            obtain ⟨q, hq⟩ : ∃ q, q = cnt n / m := ⟨_, rfl⟩
            have hq24 : q ≤ 24 := by rw [hq]; exact Nat.le_trans (Nat.div_le_self _ _) hcn
            rw [← hq] at hq1
            have Hq1 := Lib.hid hq1
            have Hq := Lib.hid hq
            clear hmd hq hq1
            go_wp2_with fail
            go_loopw [40] (fun s wr => ∃ d : Nat, d ≤ ord l ∧ s = .int .i64 d ∧ (∀ d', d' < d → ∀ e, e < ord l → bxAt l n m d' e = false) ∧ Ext w2 wr) (fun s _ => ord l - (intOf s).toNat)
            case atStart => exact ⟨0, by omega, rfl, by omega, hE⟩
            case round =>
              clear hE
              obtain ⟨d, hd, rfl, hno, hE⟩ := hrel
              have Hno2 := Lib.hid hno
              clear hno
              by_cases hltd : d < ord l
              · go_wp2_with fail
                go_loopw [44] (fun s wr => ∃ e : Nat, e ≤ ord l ∧ s = .int .i64 e ∧ (∀ e', e' < e → bxAt l n m d e' = false) ∧ Ext w2 wr) (fun s _ => ord l - (intOf s).toNat)
                case atStart => exact ⟨0, by omega, rfl, by omega, hE⟩
                case round =>
                  clear hE
                  obtain ⟨e, he, rfl, hno, hE⟩ := hrel
                  have Hno3 := Lib.hid hno
                  clear hno
                  by_cases hlte : e < ord l
                  · have hbu := fun U => hb1 _ (hE.trans (lat_ext wr U))
                    have hgr' : ∀ W, Ext wr W → Ints W v l := fun W hW => hg1 W (hE.trans hW)
                    have p1 := prSet_bd Hgr.out (s := 0) (by omega) d m
                    have p2 := prSet_bd Hgr.out (s := 0) (by omega) e q
                    have hB := sumF_bd Hgr.out (prSet l 0 d m) (prSet l 0 e q)
                    have HB : Hid (bxS l n m d e = sumF l (prSet l 0 d m) (prSet l 0 e q)) := Lib.hid (by unfold bxS; rw [Hq.out])
                    have hE1 := hE
                    clear hE
                    have hE := Ext.refl wr
                    have d24 : d < 24 := by omega
                    have e24 : e < 24 := by omega
                    have m24 : m ≤ 24 := by omega
                    have hq1 := Hq1.out
                    go_wp2_with fail
                    (refine wp_region_lat (wr) (by kernel_rfl) (by kernel_rfl) hE ?_); (repeat (go_big_quiet_step (first | (go_at_call 195; with_reducible exact Calls.lat (progression0_any _ _ d m _ (hgr' _ (lat_ext wr _)) Hgr d24 m24)) | (go_at_call 195; with_reducible exact Calls.lat (progression0_any _ _ e q _ (hgr' _ (lat_ext wr _)) Hgr e24 hq24)) | (go_at_call 72; with_reducible exact Calls.lat (sum_any _ _ _ _ _ (hgr' _ (lat_ext wr _)) Hgr p1 p2))))); (refine wpQuiet_nil ?_); (intro W hE'); (replace hE := lat_of hE'); (clear hE')
                    replace hE := hE1.trans hE
                    rw [← HB.out] at hB
                    rw [← HB.out]
                    clear hE1 hgr' hbu p1 p2 hq1
                    by_cases hc : cnt (bxS l n m d e) = cnt n
                    · have hci : ((cnt (bxS l n m d e) : Int) != (cnt n : Int)) = false := by rw [hc]; simp
                      have Hc := Lib.hid hc
                      clear hc
                      generalize hBB : bxS l n m d e = B at hB HB Hc hci ⊢
                      have HBB := Lib.hid hBB
                      clear hBB
                      go_wp2_with (first | (go_at_call 83; refine (bits_any _ (hB) _).mono ?_; rintro e w' ⟨rfl, rfl⟩))
                      go_loopw [64] (fun s wr => ∃ x : Nat, x ≤ ord l ∧ s = .int .i64 x ∧ (∀ x', x' < x → ¬ shiftF l B x' = n) ∧ Ext w2 wr) (fun s _ => ord l - (intOf s).toNat)
                      case atStart => exact ⟨0, by omega, rfl, by omega, hE⟩
                      case round =>
                        clear hE
                        obtain ⟨x, hx, rfl, hno, hE⟩ := hrel
                        have Hno4 := Lib.hid hno
                        clear hno
                        by_cases hltx : x < ord l
                        · have hbx := hb1 _ hE
                          have x24 : x < 24 := by omega
                          by_cases hsx : shiftF l B x = n
                          · have hsi : ((shiftF l B x : Int) == (n : Int)) = true := by rw [hsx]; simp
                            have Hz := Lib.hid (bxN_hit hm1 Hlt.out Hmd.out hltd hlte hltx (by rw [HBB.out]; exact Hc.out) (by rw [HBB.out]; exact hsx))
                            clear hsx
                            go_wp2_with fail
                            refine (shift_any _ _ _ _ _ (hg1 _ hE) Hgr hB x24).mono ?_
                            rintro e' wr ⟨rfl, hE'⟩
                            replace hE := hE.trans hE'
                            clear hE' hbx
                            have hq1 := Hq1.out
                            have hm0n : ¬ m = 0 := fun e => Nat.lt_irrefl 0 (by rw [e] at hm1; exact hm1)
                            have hm0' : ¬ (m : Int) = 0 := fun e => hm0n (Int.ofNat_eq_zero.1 e)
                            have hD := (Ext.refl wr).drew
                            go_wp2_with fail
                            first | (go_region_held3 (fun W => Ext wr W) (exact (by repeat (first | assumption | exact Ext.refl _ | (apply And.left; assumption) | apply Ext.drew | apply Ext.alloc))) (first | fail)) | (fail "the region that returns")
                            all_goals go_wp2_with fail
                            all_goals
                              first
                              | (refine bodyPost_ret (v := .tuple #[.slice (some ⟨wr.heap.size, 0, none⟩) 2 2, .slice (some ⟨wr.heap.size + 1, 0, none⟩) 2 2, .bool true]) ?_ rfl ⟨_, _, by rw [Hs.out, Hz.out], eW.trans (hE.trans (by repeat (first | assumption | exact Ext.refl _ | (apply And.left; assumption) | apply Ext.drew | apply Ext.alloc)))⟩; (simp [results, Try.results183, go_sem]; done))
                              | (refine bodyPost_ret (v := .tuple #[.slice (some ⟨wr.heap.size + 1, 0, none⟩) 2 2, .slice (some ⟨wr.heap.size, 0, none⟩) 2 2, .bool true]) ?_ rfl ⟨_, _, by rw [Hs.out, Hz.out], eW.trans (hE.trans (by repeat (first | assumption | exact Ext.refl _ | (apply And.left; assumption) | apply Ext.drew | apply Ext.alloc)))⟩; (simp [results, Try.results183, go_sem]; done))
                          · have Hsx := Lib.hid hsx
                            have hsi : ((shiftF l B x : Int) == (n : Int)) = false := by simp; omega
                            clear hsx
                            go_wp2_with fail
                            refine (shift_any _ _ _ _ _ (hg1 _ hE) Hgr hB x24).mono ?_
                            rintro e' wr ⟨rfl, hE'⟩
                            replace hE := hE.trans hE'
                            clear hE' hbx
                            go_wp2_with fail
                            go_roundw
                            case rel => exact ⟨x + 1, by omega, by go_num, fun x' h => by by_cases q : x' = x; (subst q; exact Hsx.out); exact Hno4.out x' (by omega), hE⟩
                            case measure => (simp [intOf]; omega)
                        · have hxl : x = ord l := by omega
                          have Hn : Hid (bxAt l n m d e = false) := Lib.hid (bxAt_no fun x' h => by rw [HBB.out]; exact Hno4.out x' (by omega))
                          go_wp2_with fail
                          go_roundw
                          case rel => exact ⟨e + 1, by omega, by go_num, fun e' h => by by_cases q : e' = e; (subst q; exact Hn.out); exact Hno3.out e' (by omega), hE⟩
                          case measure => (simp [intOf]; omega)
                    · have hci : ((cnt (bxS l n m d e) : Int) != (cnt n : Int)) = true := by simp; omega
                      have Hn := Lib.hid (bxAt_cnt hc)
                      clear hc
                      generalize bxS l n m d e = B at hB HB hci ⊢
                      go_wp2_with (first | (go_at_call 83; refine (bits_any _ (hB) _).mono ?_; rintro e w' ⟨rfl, rfl⟩))
                      go_roundw
                      case rel => exact ⟨e + 1, by omega, by go_num, fun e' h => by by_cases q : e' = e; (subst q; exact Hn.out); exact Hno3.out e' (by omega), hE⟩
                      case measure => (simp [intOf]; omega)
                  · have hel : e = ord l := by omega
                    go_wp2_with fail
                    go_roundw
                    case rel => exact ⟨d + 1, by omega, by go_num, fun d' h e' h' => by by_cases q : d' = d; (subst q; exact Hno3.out e' (by omega)); exact Hno2.out d' (by omega) e' h', hE⟩
                    case measure => (simp [intOf]; omega)
              · have hdl : d = ord l := by omega
                have Hn : Hid (bxM l n m = false) := Lib.hid (bxM_no fun d' h e' h' => Hno2.out d' (by omega) e' h')
                go_wp2_with fail
                go_roundw
                case rel => exact ⟨m + 1, by omega, by omega, by go_num, fun m' h h' => by by_cases q : m' = m; (subst q; exact Hn.out); exact Hno1.out m' h (by omega), hE⟩
                case measure => (simp [intOf]; omega)
          · have hmod : ((cnt n : Int) % (m : Int) != 0) = true := by rw [← Int.natCast_emod]; simp; omega
            have hm0 : ((m : Int) == 0) = false := by simp; omega
            have Hn := Lib.hid (bxM_mod (l := l) hmd)
            clear hmd
            go_wp2_with fail
            go_roundw
            case rel => exact ⟨m + 1, by omega, by omega, by go_num, fun m' h h' => by by_cases q : m' = m; (subst q; exact Hn.out); exact Hno1.out m' h (by omega), hE⟩
            case measure => (simp [intOf]; omega)
        · have hlti : ¬ (m : Int) * (m : Int) ≤ (cnt n : Int) := by rw [← Int.natCast_mul]; omega
          have Hz := Lib.hid (bxN_no Hno1.out hlt)
          clear hlt
          go_wp2_with fail
          exact bodyPost_ret (v := .tuple #[.slice (some ⟨wr.heap.size, 0, none⟩) 0 0, .slice (some ⟨wr.heap.size + 1, 0, none⟩) 0 0, .bool false]) (by simp [results, Try.results183, go_sem]) rfl ⟨_, _, by rw [Hs.out, Hz.out], eW.trans ((hE.alloc _).alloc _)⟩
theorem sFindBox_any (v : Value) (l : List Int) (a : Int) (w : World) (h : Ints w v l) :
    Calls Try.prog 180 #[.agg #[v], .int .i64 a] w (BoxP (boxB l a) w) := by
  obtain ⟨wb, hwb⟩ : ∃ wb, wb = w.alloc (.cells #[v] 26) := ⟨_, rfl⟩
  have hE0 := (Ext.refl w).alloc (.cells #[v] 26)
  have hb := box_cell w v 26
  rw [← hwb] at hE0 hb
  have hg : ∀ W, Ext wb W → Ints W v l := fun W hW => h.ext (hE0.trans hW)
  have hE := Ext.refl wb
  have Hsz : Hid (w.heap.size + 1 = wb.heap.size) := Lib.hid (by rw [hwb]; simp [go_sem])
  have Hwb := Lib.hid hwb
  clear hwb h
  have hbx := hb wb hE
  cases hs : isSetB l a
  · have Hs := Lib.hid (boxB_no (isOneB_no hs))
    go_enter Try.func180, Try.ntmps180
    go_wp2_with fail
    rw [← Hwb.out]
    refine (sIsSet_val _ _ _ _ (hg _ hE) hs).mono ?_
    rintro e wZ ⟨rfl, hE2⟩
    have hEZ := hE0.trans hE2
    go_wp2_with fail
    exact bodyPost_ret (v := .tuple #[.slice (some ⟨wZ.heap.size, 0, none⟩) 0 0, .slice (some ⟨wZ.heap.size + 1, 0, none⟩) 0 0, .bool false]) (by simp [results, Try.results180, go_sem]) rfl ⟨_, _, by rw [Hs.out], (hEZ.alloc _).alloc _⟩
  · obtain ⟨n, rfl, h1, h2, hgr⟩ := isSetB_nat hs
    by_cases h0 : n = 0
    · subst h0
      have Hs : Hid (boxB l ((0 : Nat) : Int) = false) := Lib.hid (boxB_no (isOneB_zero l))
      go_enter Try.func180, Try.ntmps180
      go_wp2_with fail
      rw [← Hwb.out]
      refine (sIsSet_val _ _ _ _ (hg _ hE) hs).mono ?_
      rintro e wZ ⟨rfl, hE2⟩
      have hEZ := hE0.trans hE2
      go_wp2_with fail
      exact bodyPost_ret (v := .tuple #[.slice (some ⟨wZ.heap.size, 0, none⟩) 0 0, .slice (some ⟨wZ.heap.size + 1, 0, none⟩) 0 0, .bool false]) (by simp [results, Try.results180, go_sem]) rfl ⟨_, _, by rw [Hs.out], (hEZ.alloc _).alloc _⟩
    · have Hs := Lib.hid (boxB_yes (isOneB_yes hs (by omega)))
      have h0' : ((n : Int) == 0) = false := by simp; omega
      have Hgr := Lib.hid hgr
      have hob := ord_bd hgr
      have hcn := cnt_le n
      clear hgr h0 h1
      go_enter Try.func180, Try.ntmps180
      go_wp2_with fail
      rw [← Hwb.out]
      refine (sIsSet_val _ _ _ _ (hg _ hE) hs).mono ?_
      rintro e w1 ⟨rfl, hE1⟩
      go_wp2_with (first | (go_at_call 85; refine (l3Bits_any _ (h2) _).mono ?_; rintro e w' ⟨rfl, rfl⟩))
      refine (l2Order_any _ _ _ (hg _ hE1) Hgr).mono ?_
      rintro e w2 ⟨rfl, hE2⟩
      go_wp2_with fail
      have eW := hE0.trans (hE1.trans hE2)
      have hb1 : ∀ W, Ext w2 W → W.cell? ⟨w.heap.size, 0, none⟩ = some v := fun W hW => hb W (hE1.trans (hE2.trans hW))
      have hg1 : ∀ W, Ext w2 W → Ints W v l := fun W hW => hg W (hE1.trans (hE2.trans hW))
      clear hb hg hbx hE hE1 hE2 h0' hs
      have hE := Ext.refl w2
      go_loopw [9] (fun s wr => ∃ m : Nat, 1 ≤ m ∧ m ≤ 5 ∧ s = .int .i64 m ∧ (∀ m', 1 ≤ m' → m' < m → bxM l n m' = false) ∧ Ext w2 wr) (fun s _ => 5 - (intOf s).toNat)
      case atStart => exact ⟨1, by omega, by omega, rfl, by omega, hE⟩
      case round =>
        clear hE
        obtain ⟨m, hm1, hm5, rfl, hno, hE⟩ := hrel
        have Hno1 := Lib.hid hno
        clear hno
        have hmm0 : 0 ≤ (m : Int) * (m : Int) ∧ (m : Int) * (m : Int) ≤ 25 := by
          have := Nat.mul_le_mul hm5 hm5
          rw [← Int.natCast_mul]; omega
        obtain ⟨hmm0, hmm1⟩ := hmm0
        by_cases hlt : m * m ≤ cnt n
        · have hlti : (m : Int) * (m : Int) ≤ (cnt n : Int) := by rw [← Int.natCast_mul]; omega
          have hm4 : m ≤ 4 := by
            rcases Nat.lt_or_ge 4 m with c | c
            · have := Nat.mul_le_mul c c; omega
            · exact c
          have Hlt := Lib.hid hlt
          clear hlt
          by_cases hmd : cnt n % m = 0
          · have hmod : ((cnt n : Int) % (m : Int) != 0) = false := by rw [← Int.natCast_emod, hmd]; rfl
            have hq1 := quo_val (m := m) hcn
            have hm0 : ((m : Int) == 0) = false := by simp; omega
            have Hmd := Lib.hid hmd
            obtain ⟨q, hq⟩ : ∃ q, q = cnt n / m := ⟨_, rfl⟩
            have hq24 : q ≤ 24 := by rw [hq]; exact Nat.le_trans (Nat.div_le_self _ _) hcn
            rw [← hq] at hq1
            have Hq1 := Lib.hid hq1
            have Hq := Lib.hid hq
            clear hmd hq hq1
            go_wp2_with fail
            go_loopw [10] (fun s wr => ∃ d : Nat, d ≤ ord l ∧ s = .int .i64 d ∧ (∀ d', d' < d → ∀ e, e < ord l → bxAt l n m d' e = false) ∧ Ext w2 wr) (fun s _ => ord l - (intOf s).toNat)
            case atStart => exact ⟨0, by omega, rfl, by omega, hE⟩
            case round =>
              clear hE
              obtain ⟨d, hd, rfl, hno, hE⟩ := hrel
              have Hno2 := Lib.hid hno
              clear hno
              by_cases hltd : d < ord l
              · have hbx := hb1 _ hE
                have d24 : d < 24 := by omega
                have m24 : m ≤ 24 := by omega
                have p1 := prSet_bd Hgr.out (s := 0) (by omega) d m
                go_wp2_with fail
                refine (l10Progression0_any _ _ d m _ (hg1 _ hE) Hgr d24 m24).mono ?_
                rintro e0 w3 ⟨rfl, hE'⟩
                replace hE := hE.trans hE'
                clear hE' hbx
                go_wp2_with fail
                go_loopw [12] (fun s wr => ∃ e : Nat, e ≤ ord l ∧ s = .int .i64 e ∧ (∀ e', e' < e → bxAt l n m d e' = false) ∧ Ext w2 wr) (fun s _ => ord l - (intOf s).toNat)
                case atStart => exact ⟨0, by omega, rfl, by omega, hE⟩
                case round =>
                  clear hE
                  obtain ⟨e, he, rfl, hno, hE⟩ := hrel
                  have Hno3 := Lib.hid hno
                  clear hno
                  by_cases hlte : e < ord l
                  · have hbu := fun U => hb1 _ (hE.trans (lat_ext wr U))
                    have hgr' : ∀ W, Ext wr W → Ints W v l := fun W hW => hg1 W (hE.trans hW)
                    have p2 := prSet_bd Hgr.out (s := 0) (by omega) e q
                    have hB := sumF_bd Hgr.out (prSet l 0 d m) (prSet l 0 e q)
                    have HB : Hid (bxS l n m d e = sumF l (prSet l 0 d m) (prSet l 0 e q)) := Lib.hid (by unfold bxS; rw [Hq.out])
                    have hE1 := hE
                    clear hE
                    have hE := Ext.refl wr
                    have e24 : e < 24 := by omega
                    have hq1 := Hq1.out
                    go_wp2_with fail
                    (refine wp_region_lat (wr) (by kernel_rfl) (by kernel_rfl) hE ?_); (repeat (go_big_quiet_step (first | (go_at_call 194; with_reducible exact Calls.lat (l10Progression0_any _ _ e q _ (hgr' _ (lat_ext wr _)) Hgr e24 hq24)) | (go_at_call 74; with_reducible exact Calls.lat (l4Sum_any _ _ _ _ _ (hgr' _ (lat_ext wr _)) Hgr p1 p2))))); (refine wpQuiet_nil ?_); (intro W hE'); (replace hE := lat_of hE'); (clear hE')
                    replace hE := hE1.trans hE
                    rw [← HB.out] at hB
                    rw [← HB.out]
                    clear hE1 hgr' hbu p2 hq1
                    by_cases hc : cnt (bxS l n m d e) = cnt n
                    · have hci : ((cnt (bxS l n m d e) : Int) != (cnt n : Int)) = false := by rw [hc]; simp
                      have Hc := Lib.hid hc
                      clear hc
                      generalize hBB : bxS l n m d e = B at hB HB Hc hci ⊢
                      have HBB := Lib.hid hBB
                      clear hBB
                      go_wp2_with (first | (go_at_call 85; refine (l3Bits_any _ (hB) _).mono ?_; rintro e w' ⟨rfl, rfl⟩))
                      go_loopw [14] (fun s wr => ∃ x : Nat, x ≤ ord l ∧ s = .int .i64 x ∧ (∀ x', x' < x → ¬ shiftF l B x' = n) ∧ Ext w2 wr) (fun s _ => ord l - (intOf s).toNat)
                      case atStart => exact ⟨0, by omega, rfl, by omega, hE⟩
                      case round =>
                        clear hE
                        obtain ⟨x, hx, rfl, hno, hE⟩ := hrel
                        have Hno4 := Lib.hid hno
                        clear hno
                        by_cases hltx : x < ord l
                        · have hbx := hb1 _ hE
                          have x24 : x < 24 := by omega
                          by_cases hsx : shiftF l B x = n
                          · have hsi : ((shiftF l B x : Int) == (n : Int)) = true := by rw [hsx]; simp
                            have Hz := Lib.hid (bxN_hit hm1 Hlt.out Hmd.out hltd hlte hltx (by rw [HBB.out]; exact Hc.out) (by rw [HBB.out]; exact hsx))
                            clear hsx
                            go_wp2_with fail
                            refine (l3Shift_any _ _ _ _ _ (hg1 _ hE) Hgr hB x24).mono ?_
                            rintro e' wr ⟨rfl, hE'⟩
                            replace hE := hE.trans hE'
                            clear hE' hbx
                            have hq1 := Hq1.out
                            have hm0n : ¬ m = 0 := fun e => Nat.lt_irrefl 0 (by rw [e] at hm1; exact hm1)
                            have hm0' : ¬ (m : Int) = 0 := fun e => hm0n (Int.ofNat_eq_zero.1 e)
                            have hD := (Ext.refl wr).drew
                            go_wp2_with fail
                            first | (go_region_held3 (fun W => Ext wr W) (exact (by repeat (first | assumption | exact Ext.refl _ | (apply And.left; assumption) | apply Ext.drew | apply Ext.alloc))) (first | fail)) | (fail "the region that returns")
                            all_goals go_wp2_with fail
                            all_goals
                              first
                              | (refine bodyPost_ret (v := .tuple #[.slice (some ⟨wr.heap.size, 0, none⟩) 2 2, .slice (some ⟨wr.heap.size + 1, 0, none⟩) 2 2, .bool true]) ?_ rfl ⟨_, _, by rw [Hs.out, Hz.out], eW.trans (hE.trans (by repeat (first | assumption | exact Ext.refl _ | (apply And.left; assumption) | apply Ext.drew | apply Ext.alloc)))⟩; (simp [results, Try.results180, go_sem]; done))
                              | (refine bodyPost_ret (v := .tuple #[.slice (some ⟨wr.heap.size + 1, 0, none⟩) 2 2, .slice (some ⟨wr.heap.size, 0, none⟩) 2 2, .bool true]) ?_ rfl ⟨_, _, by rw [Hs.out, Hz.out], eW.trans (hE.trans (by repeat (first | assumption | exact Ext.refl _ | (apply And.left; assumption) | apply Ext.drew | apply Ext.alloc)))⟩; (simp [results, Try.results180, go_sem]; done))
                          · have Hsx := Lib.hid hsx
                            have hsi : ((shiftF l B x : Int) == (n : Int)) = false := by simp; omega
                            clear hsx
                            go_wp2_with fail
                            refine (l3Shift_any _ _ _ _ _ (hg1 _ hE) Hgr hB x24).mono ?_
                            rintro e' wr ⟨rfl, hE'⟩
                            replace hE := hE.trans hE'
                            clear hE' hbx
                            go_wp2_with fail
                            go_roundw
                            case rel => exact ⟨x + 1, by omega, by go_num, fun x' h => by by_cases q : x' = x; (subst q; exact Hsx.out); exact Hno4.out x' (by omega), hE⟩
                            case measure => (simp [intOf]; omega)
                        · have hxl : x = ord l := by omega
                          have Hn : Hid (bxAt l n m d e = false) := Lib.hid (bxAt_no fun x' h => by rw [HBB.out]; exact Hno4.out x' (by omega))
                          go_wp2_with fail
                          go_roundw
                          case rel => exact ⟨e + 1, by omega, by go_num, fun e' h => by by_cases q : e' = e; (subst q; exact Hn.out); exact Hno3.out e' (by omega), hE⟩
                          case measure => (simp [intOf]; omega)
                    · have hci : ((cnt (bxS l n m d e) : Int) != (cnt n : Int)) = true := by simp; omega
                      have Hn := Lib.hid (bxAt_cnt hc)
                      clear hc
                      generalize bxS l n m d e = B at hB HB hci ⊢
                      go_wp2_with (first | (go_at_call 85; refine (l3Bits_any _ (hB) _).mono ?_; rintro e w' ⟨rfl, rfl⟩))
                      go_roundw
                      case rel => exact ⟨e + 1, by omega, by go_num, fun e' h => by by_cases q : e' = e; (subst q; exact Hn.out); exact Hno3.out e' (by omega), hE⟩
                      case measure => (simp [intOf]; omega)
                  · have hel : e = ord l := by omega
                    go_wp2_with fail
                    go_roundw
                    case rel => exact ⟨d + 1, by omega, by go_num, fun d' h e' h' => by by_cases q : d' = d; (subst q; exact Hno3.out e' (by omega)); exact Hno2.out d' (by omega) e' h', hE⟩
                    case measure => (simp [intOf]; omega)
              · have hdl : d = ord l := by omega
                have Hn : Hid (bxM l n m = false) := Lib.hid (bxM_no fun d' h e' h' => Hno2.out d' (by omega) e' h')
                go_wp2_with fail
                go_roundw
                case rel => exact ⟨m + 1, by omega, by omega, by go_num, fun m' h h' => by by_cases q : m' = m; (subst q; exact Hn.out); exact Hno1.out m' h (by omega), hE⟩
                case measure => (simp [intOf]; omega)
          · have hmod : ((cnt n : Int) % (m : Int) != 0) = true := by rw [← Int.natCast_emod]; simp; omega
            have hm0 : ((m : Int) == 0) = false := by simp; omega
            have Hn := Lib.hid (bxM_mod (l := l) hmd)
            clear hmd
            go_wp2_with fail
            go_roundw
            case rel => exact ⟨m + 1, by omega, by omega, by go_num, fun m' h h' => by by_cases q : m' = m; (subst q; exact Hn.out); exact Hno1.out m' h (by omega), hE⟩
            case measure => (simp [intOf]; omega)
        · have hlti : ¬ (m : Int) * (m : Int) ≤ (cnt n : Int) := by rw [← Int.natCast_mul]; omega
          have Hz := Lib.hid (bxN_no Hno1.out hlt)
          clear hlt
          go_wp2_with fail
          exact bodyPost_ret (v := .tuple #[.slice (some ⟨wr.heap.size, 0, none⟩) 0 0, .slice (some ⟨wr.heap.size + 1, 0, none⟩) 0 0, .bool false]) (by simp [results, Try.results180, go_sem]) rfl ⟨_, _, by rw [Hs.out, Hz.out], eW.trans ((hE.alloc _).alloc _)⟩

theorem IsBox_any (v : Value) (l : List Int) (a : Int) (w : World) (h : Ints w v l) :
    Calls Try.prog 162 #[.agg #[v], .int .i64 a] w fun e w' => e = .returned (.bool (boxB l a)) ∧ Ext w w' := by
  obtain ⟨wb, hwb⟩ : ∃ wb, wb = w.alloc (.cells #[v] 26) := ⟨_, rfl⟩
  have hE0 := (Ext.refl w).alloc (.cells #[v] 26)
  have hb := box_cell w v 26
  rw [← hwb] at hE0 hb
  have hg : ∀ W, Ext wb W → Ints W v l := fun W hW => h.ext (hE0.trans hW)
  have hE := Ext.refl wb
  have Hsz : Hid (w.heap.size + 1 = wb.heap.size) := Lib.hid (by rw [hwb]; simp [go_sem])
  have Hwb := Lib.hid hwb
  clear hwb h
  have hbx := hb wb hE
  go_enter Try.func162, Try.ntmps162
  go_wp2_with fail
  rw [← Hwb.out]
  refine (FindBox_any _ _ _ _ (hg _ hE)).mono ?_
  rintro e w1 ⟨p, q, rfl, hE1⟩
  go_wp2_with fail
  go_ret
  exact ⟨rfl, hE0.trans hE1⟩
theorem IsBox_val (v : Value) (l : List Int) (a : Int) (w : World) (h : Ints w v l) {c : Bool} (hc : boxB l a = c) :
    Calls Try.prog 162 #[.agg #[v], .int .i64 a] w fun e w' => e = .returned (.bool c) ∧ Ext w w' := by subst hc; exact IsBox_any v l a w h
theorem sIsBox_any (v : Value) (l : List Int) (a : Int) (w : World) (h : Ints w v l) :
    Calls Try.prog 154 #[.agg #[v], .int .i64 a] w fun e w' => e = .returned (.bool (boxB l a)) ∧ Ext w w' := by
  obtain ⟨wb, hwb⟩ : ∃ wb, wb = w.alloc (.cells #[v] 26) := ⟨_, rfl⟩
  have hE0 := (Ext.refl w).alloc (.cells #[v] 26)
  have hb := box_cell w v 26
  rw [← hwb] at hE0 hb
  have hg : ∀ W, Ext wb W → Ints W v l := fun W hW => h.ext (hE0.trans hW)
  have hE := Ext.refl wb
  have Hsz : Hid (w.heap.size + 1 = wb.heap.size) := Lib.hid (by rw [hwb]; simp [go_sem])
  have Hwb := Lib.hid hwb
  clear hwb h
  have hbx := hb wb hE
  go_enter Try.func154, Try.ntmps154
  go_wp2_with fail
  rw [← Hwb.out]
  refine (sFindBox_any _ _ _ _ (hg _ hE)).mono ?_
  rintro e w1 ⟨p, q, rfl, hE1⟩
  go_wp2_with fail
  go_ret
  exact ⟨rfl, hE0.trans hE1⟩
theorem sIsBox_val (v : Value) (l : List Int) (a : Int) (w : World) (h : Ints w v l) {c : Bool} (hc : boxB l a = c) :
    Calls Try.prog 154 #[.agg #[v], .int .i64 a] w fun e w' => e = .returned (.bool c) ∧ Ext w w' := by subst hc; exact sIsBox_any v l a w h
end Go.Zz

/- What a set is: StructureOf. -/
namespace Go.Zz
open Go.RowKit Go.Proofs
set_option maxHeartbeats 2000000
set_option linter.unusedSimpArgs false
set_option maxRecDepth 20000

noncomputable def stF (l : List Int) (a : Int) : ByteArray :=
  if isSetB l a then if a = 0 then ⟨#[101, 109, 112, 116, 121]⟩ else if (decide (a.toNat = fullN l)) then ⟨#[119, 104, 111, 108, 101]⟩ else if cstB l a then ⟨#[99, 111, 115, 101, 116]⟩ else if perF l a then ⟨#[112, 101, 114, 105, 111, 100, 105, 99]⟩ else if proB l a then ⟨#[112, 114, 111, 103, 114, 101, 115, 115, 105, 111, 110]⟩ else if boxB l a then ⟨#[98, 111, 120]⟩ else if sidB l a then ⟨#[115, 105, 100, 111, 110]⟩ else ⟨#[111, 116, 104, 101, 114]⟩
  else ⟨#[]⟩
theorem st_no {l : List Int} {a : Int} (h : isSetB l a = false) : stF l a = ⟨#[]⟩ := by unfold stF; rw [h]; rfl
theorem st_zero {l : List Int} (h : isSetB l ((0 : Nat) : Int) = true) : stF l ((0 : Nat) : Int) = ⟨#[101, 109, 112, 116, 121]⟩ := by unfold stF; rw [h]; rfl
theorem st_0 {l : List Int} {n : Nat} (h : isSetB l n = true) (h0' : n ≠ 0)  (h0 : decide (n = fullN l) = true) : stF l n = ⟨#[119, 104, 111, 108, 101]⟩ := by
  unfold stF
  rw [if_pos h, if_neg (by omega)]
  simp only [Int.toNat_natCast, h0, if_true, if_false, Bool.false_eq_true]
theorem st_1 {l : List Int} {n : Nat} (h : isSetB l n = true) (h0' : n ≠ 0) (h0 : decide (n = fullN l) = false) (h1 : cstB l n = true) : stF l n = ⟨#[99, 111, 115, 101, 116]⟩ := by
  unfold stF
  rw [if_pos h, if_neg (by omega)]
  simp only [Int.toNat_natCast, h0, h1, if_true, if_false, Bool.false_eq_true]
theorem st_2 {l : List Int} {n : Nat} (h : isSetB l n = true) (h0' : n ≠ 0) (h0 : decide (n = fullN l) = false) (h1 : cstB l n = false) (h2 : perF l n = true) : stF l n = ⟨#[112, 101, 114, 105, 111, 100, 105, 99]⟩ := by
  unfold stF
  rw [if_pos h, if_neg (by omega)]
  simp only [Int.toNat_natCast, h0, h1, h2, if_true, if_false, Bool.false_eq_true]
theorem st_3 {l : List Int} {n : Nat} (h : isSetB l n = true) (h0' : n ≠ 0) (h0 : decide (n = fullN l) = false) (h1 : cstB l n = false) (h2 : perF l n = false) (h3 : proB l n = true) : stF l n = ⟨#[112, 114, 111, 103, 114, 101, 115, 115, 105, 111, 110]⟩ := by
  unfold stF
  rw [if_pos h, if_neg (by omega)]
  simp only [Int.toNat_natCast, h0, h1, h2, h3, if_true, if_false, Bool.false_eq_true]
theorem st_4 {l : List Int} {n : Nat} (h : isSetB l n = true) (h0' : n ≠ 0) (h0 : decide (n = fullN l) = false) (h1 : cstB l n = false) (h2 : perF l n = false) (h3 : proB l n = false) (h4 : boxB l n = true) : stF l n = ⟨#[98, 111, 120]⟩ := by
  unfold stF
  rw [if_pos h, if_neg (by omega)]
  simp only [Int.toNat_natCast, h0, h1, h2, h3, h4, if_true, if_false, Bool.false_eq_true]
theorem st_5 {l : List Int} {n : Nat} (h : isSetB l n = true) (h0' : n ≠ 0) (h0 : decide (n = fullN l) = false) (h1 : cstB l n = false) (h2 : perF l n = false) (h3 : proB l n = false) (h4 : boxB l n = false) (h5 : sidB l n = true) : stF l n = ⟨#[115, 105, 100, 111, 110]⟩ := by
  unfold stF
  rw [if_pos h, if_neg (by omega)]
  simp only [Int.toNat_natCast, h0, h1, h2, h3, h4, h5, if_true, if_false, Bool.false_eq_true]
theorem st_6 {l : List Int} {n : Nat} (h : isSetB l n = true) (h0' : n ≠ 0) (h0 : decide (n = fullN l) = false) (h1 : cstB l n = false) (h2 : perF l n = false) (h3 : proB l n = false) (h4 : boxB l n = false) (h5 : sidB l n = false) : stF l n = ⟨#[111, 116, 104, 101, 114]⟩ := by
  unfold stF
  rw [if_pos h, if_neg (by omega)]
  simp only [Int.toNat_natCast, h0, h1, h2, h3, h4, h5, if_true, if_false, Bool.false_eq_true]
theorem StructureOf_any (v : Value) (l : List Int) (a : Int) (w : World) (h : Ints w v l) :
    Calls Try.prog 111 #[.agg #[v], .int .i64 a] w fun e w' => e = .returned (.string (stF l a)) ∧ Ext w w' := by
  obtain ⟨wb, hwb⟩ : ∃ wb, wb = w.alloc (.cells #[v] 26) := ⟨_, rfl⟩
  have hE0 := (Ext.refl w).alloc (.cells #[v] 26)
  have hb := box_cell w v 26
  rw [← hwb] at hE0 hb
  have hg : ∀ W, Ext wb W → Ints W v l := fun W hW => h.ext (hE0.trans hW)
  have hE := Ext.refl wb
  have Hsz : Hid (w.heap.size + 1 = wb.heap.size) := Lib.hid (by rw [hwb]; simp [go_sem])
  have Hwb := Lib.hid hwb
  clear hwb h
  have hbx := hb wb hE
  cases hs : isSetB l a
  · have Hs := Lib.hid (st_no hs)
    go_enter Try.func111, Try.ntmps111
    go_wp2_with fail
    rw [← Hwb.out]
    go_wp2_with (first | (go_at_call 66; refine (IsSet_val _ _ _ _ (hg _ hE) (hs)).mono ?_; rintro e w' ⟨rfl, hE'⟩; replace hE := hE.trans hE'; clear hE'))
    go_ret
    exact ⟨ret_str Hs.out.symm, hE0.trans hE⟩
  · obtain ⟨n, rfl, h1, h2, hgr⟩ := isSetB_nat hs
    by_cases h0 : n = 0
    · subst h0
      have Hs := Lib.hid (st_zero hs)
      go_enter Try.func111, Try.ntmps111
      go_wp2_with fail
      rw [← Hwb.out]
      go_wp2_with (first | (go_at_call 66; refine (IsSet_val _ _ _ _ (hg _ hE) (hs)).mono ?_; rintro e w' ⟨rfl, hE'⟩; replace hE := hE.trans hE'; clear hE'))
      go_ret
      exact ⟨ret_str Hs.out.symm, hE0.trans hE⟩
    · have h0' : ((n : Int) == 0) = false := by simp; omega
      have H0 := Lib.hid h0
      have Hgr := Lib.hid hgr
      have hob := ord_bd hgr
      have hfl := fullN_lt l
      have hfb := Nat.lt_of_lt_of_le hfl (pow_ord hgr)
      have hs1 := ishl_one (n := ord l) (by omega)
      have hpw := pw_le hob.2
      have hpp := pw_pos (ord l)
      have Hfw : Hid (((pw (ord l) : Nat) : Int) - 1 = (fullN l : Int)) := Lib.hid (by unfold fullN; omega)
      clear hgr h0
      cases c0 : decide (n = fullN l)
      rotate_left
      ·
        have Hz := Lib.hid (st_0 hs H0.out c0)
        have hfe : ((n : Int) == (fullN l : Int)) = decide (n = fullN l) := (by rw [Bool.eq_iff_iff]; simp; omega); rw [c0] at hfe
        skip
        go_enter Try.func111, Try.ntmps111
        go_wp2_with fail
        rw [← Hwb.out]
        go_wp2_with (first | (go_at_call 66; refine (IsSet_val _ _ _ _ (hg _ hE) (hs)).mono ?_; rintro e w' ⟨rfl, hE'⟩; replace hE := hE.trans hE'; clear hE') | (go_at_call 82; refine (FullSet_grp _ _ _ (hg _ hE) (Hgr)).mono ?_; rintro e w' ⟨rfl, hE'⟩; replace hE := hE.trans hE'; clear hE'))
        go_ret
        exact ⟨ret_str Hz.out.symm, hE0.trans hE⟩
      cases c1 : cstB l n
      rotate_left
      ·
        have Hz := Lib.hid (st_1 hs H0.out c0 c1)
        have hfe : ((n : Int) == (fullN l : Int)) = decide (n = fullN l) := (by rw [Bool.eq_iff_iff]; simp; omega); rw [c0] at hfe
        skip
        go_enter Try.func111, Try.ntmps111
        go_wp2_with fail
        rw [← Hwb.out]
        go_wp2_with (first | (go_at_call 66; refine (IsSet_val _ _ _ _ (hg _ hE) (hs)).mono ?_; rintro e w' ⟨rfl, hE'⟩; replace hE := hE.trans hE'; clear hE') | (go_at_call 82; refine (FullSet_grp _ _ _ (hg _ hE) (Hgr)).mono ?_; rintro e w' ⟨rfl, hE'⟩; replace hE := hE.trans hE'; clear hE') | (go_at_call 159; refine (IsCoset_val _ _ _ _ (hg _ hE) c1).mono ?_; rintro e w' ⟨rfl, hE'⟩; replace hE := hE.trans hE'; clear hE'))
        go_ret
        exact ⟨ret_str Hz.out.symm, hE0.trans hE⟩
      cases c2 : perF l n
      rotate_left
      ·
        have Hz := Lib.hid (st_2 hs H0.out c0 c1 c2)
        have hfe : ((n : Int) == (fullN l : Int)) = decide (n = fullN l) := (by rw [Bool.eq_iff_iff]; simp; omega); rw [c0] at hfe
        skip
        go_enter Try.func111, Try.ntmps111
        go_wp2_with fail
        rw [← Hwb.out]
        go_wp2_with (first | (go_at_call 66; refine (IsSet_val _ _ _ _ (hg _ hE) (hs)).mono ?_; rintro e w' ⟨rfl, hE'⟩; replace hE := hE.trans hE'; clear hE') | (go_at_call 82; refine (FullSet_grp _ _ _ (hg _ hE) (Hgr)).mono ?_; rintro e w' ⟨rfl, hE'⟩; replace hE := hE.trans hE'; clear hE') | (go_at_call 159; refine (IsCoset_val _ _ _ _ (hg _ hE) c1).mono ?_; rintro e w' ⟨rfl, hE'⟩; replace hE := hE.trans hE'; clear hE') | (go_at_call 160; refine (IsPeriodic_val _ _ _ _ (hg _ hE) c2).mono ?_; rintro e w' ⟨rfl, hE'⟩; replace hE := hE.trans hE'; clear hE'))
        go_ret
        exact ⟨ret_str Hz.out.symm, hE0.trans hE⟩
      cases c3 : proB l n
      rotate_left
      ·
        have Hz := Lib.hid (st_3 hs H0.out c0 c1 c2 c3)
        have hfe : ((n : Int) == (fullN l : Int)) = decide (n = fullN l) := (by rw [Bool.eq_iff_iff]; simp; omega); rw [c0] at hfe
        skip
        go_enter Try.func111, Try.ntmps111
        go_wp2_with fail
        rw [← Hwb.out]
        go_wp2_with (first | (go_at_call 66; refine (IsSet_val _ _ _ _ (hg _ hE) (hs)).mono ?_; rintro e w' ⟨rfl, hE'⟩; replace hE := hE.trans hE'; clear hE') | (go_at_call 82; refine (FullSet_grp _ _ _ (hg _ hE) (Hgr)).mono ?_; rintro e w' ⟨rfl, hE'⟩; replace hE := hE.trans hE'; clear hE') | (go_at_call 159; refine (IsCoset_val _ _ _ _ (hg _ hE) c1).mono ?_; rintro e w' ⟨rfl, hE'⟩; replace hE := hE.trans hE'; clear hE') | (go_at_call 160; refine (IsPeriodic_val _ _ _ _ (hg _ hE) c2).mono ?_; rintro e w' ⟨rfl, hE'⟩; replace hE := hE.trans hE'; clear hE') | (go_at_call 161; refine (IsProgression_val _ _ _ _ (hg _ hE) c3).mono ?_; rintro e w' ⟨rfl, hE'⟩; replace hE := hE.trans hE'; clear hE'))
        go_ret
        exact ⟨ret_str Hz.out.symm, hE0.trans hE⟩
      cases c4 : boxB l n
      rotate_left
      ·
        have Hz := Lib.hid (st_4 hs H0.out c0 c1 c2 c3 c4)
        have hfe : ((n : Int) == (fullN l : Int)) = decide (n = fullN l) := (by rw [Bool.eq_iff_iff]; simp; omega); rw [c0] at hfe
        skip
        go_enter Try.func111, Try.ntmps111
        go_wp2_with fail
        rw [← Hwb.out]
        go_wp2_with (first | (go_at_call 66; refine (IsSet_val _ _ _ _ (hg _ hE) (hs)).mono ?_; rintro e w' ⟨rfl, hE'⟩; replace hE := hE.trans hE'; clear hE') | (go_at_call 82; refine (FullSet_grp _ _ _ (hg _ hE) (Hgr)).mono ?_; rintro e w' ⟨rfl, hE'⟩; replace hE := hE.trans hE'; clear hE') | (go_at_call 159; refine (IsCoset_val _ _ _ _ (hg _ hE) c1).mono ?_; rintro e w' ⟨rfl, hE'⟩; replace hE := hE.trans hE'; clear hE') | (go_at_call 160; refine (IsPeriodic_val _ _ _ _ (hg _ hE) c2).mono ?_; rintro e w' ⟨rfl, hE'⟩; replace hE := hE.trans hE'; clear hE') | (go_at_call 161; refine (IsProgression_val _ _ _ _ (hg _ hE) c3).mono ?_; rintro e w' ⟨rfl, hE'⟩; replace hE := hE.trans hE'; clear hE') | (go_at_call 162; refine (IsBox_val _ _ _ _ (hg _ hE) c4).mono ?_; rintro e w' ⟨rfl, hE'⟩; replace hE := hE.trans hE'; clear hE'))
        go_ret
        exact ⟨ret_str Hz.out.symm, hE0.trans hE⟩
      cases c5 : sidB l n
      rotate_left
      ·
        have Hz := Lib.hid (st_5 hs H0.out c0 c1 c2 c3 c4 c5)
        have hfe : ((n : Int) == (fullN l : Int)) = decide (n = fullN l) := (by rw [Bool.eq_iff_iff]; simp; omega); rw [c0] at hfe
        skip
        go_enter Try.func111, Try.ntmps111
        go_wp2_with fail
        rw [← Hwb.out]
        go_wp2_with (first | (go_at_call 66; refine (IsSet_val _ _ _ _ (hg _ hE) (hs)).mono ?_; rintro e w' ⟨rfl, hE'⟩; replace hE := hE.trans hE'; clear hE') | (go_at_call 82; refine (FullSet_grp _ _ _ (hg _ hE) (Hgr)).mono ?_; rintro e w' ⟨rfl, hE'⟩; replace hE := hE.trans hE'; clear hE') | (go_at_call 159; refine (IsCoset_val _ _ _ _ (hg _ hE) c1).mono ?_; rintro e w' ⟨rfl, hE'⟩; replace hE := hE.trans hE'; clear hE') | (go_at_call 160; refine (IsPeriodic_val _ _ _ _ (hg _ hE) c2).mono ?_; rintro e w' ⟨rfl, hE'⟩; replace hE := hE.trans hE'; clear hE') | (go_at_call 161; refine (IsProgression_val _ _ _ _ (hg _ hE) c3).mono ?_; rintro e w' ⟨rfl, hE'⟩; replace hE := hE.trans hE'; clear hE') | (go_at_call 162; refine (IsBox_val _ _ _ _ (hg _ hE) c4).mono ?_; rintro e w' ⟨rfl, hE'⟩; replace hE := hE.trans hE'; clear hE') | (go_at_call 118; refine (IsSidon_val _ _ _ _ (hg _ hE) c5).mono ?_; rintro e w' ⟨rfl, hE'⟩; replace hE := hE.trans hE'; clear hE'))
        go_ret
        exact ⟨ret_str Hz.out.symm, hE0.trans hE⟩
      have Hz := Lib.hid (st_6 hs H0.out c0 c1 c2 c3 c4 c5)
      have hfe : ((n : Int) == (fullN l : Int)) = decide (n = fullN l) := (by rw [Bool.eq_iff_iff]; simp; omega); rw [c0] at hfe
      skip
      go_enter Try.func111, Try.ntmps111
      go_wp2_with fail
      rw [← Hwb.out]
      go_wp2_with (first | (go_at_call 66; refine (IsSet_val _ _ _ _ (hg _ hE) (hs)).mono ?_; rintro e w' ⟨rfl, hE'⟩; replace hE := hE.trans hE'; clear hE') | (go_at_call 82; refine (FullSet_grp _ _ _ (hg _ hE) (Hgr)).mono ?_; rintro e w' ⟨rfl, hE'⟩; replace hE := hE.trans hE'; clear hE') | (go_at_call 159; refine (IsCoset_val _ _ _ _ (hg _ hE) c1).mono ?_; rintro e w' ⟨rfl, hE'⟩; replace hE := hE.trans hE'; clear hE') | (go_at_call 160; refine (IsPeriodic_val _ _ _ _ (hg _ hE) c2).mono ?_; rintro e w' ⟨rfl, hE'⟩; replace hE := hE.trans hE'; clear hE') | (go_at_call 161; refine (IsProgression_val _ _ _ _ (hg _ hE) c3).mono ?_; rintro e w' ⟨rfl, hE'⟩; replace hE := hE.trans hE'; clear hE') | (go_at_call 162; refine (IsBox_val _ _ _ _ (hg _ hE) c4).mono ?_; rintro e w' ⟨rfl, hE'⟩; replace hE := hE.trans hE'; clear hE') | (go_at_call 118; refine (IsSidon_val _ _ _ _ (hg _ hE) c5).mono ?_; rintro e w' ⟨rfl, hE'⟩; replace hE := hE.trans hE'; clear hE'))
      go_ret
      exact ⟨ret_str Hz.out.symm, hE0.trans hE⟩
theorem sStructureOf_any (v : Value) (l : List Int) (a : Int) (w : World) (h : Ints w v l) :
    Calls Try.prog 97 #[.agg #[v], .int .i64 a] w fun e w' => e = .returned (.string (stF l a)) ∧ Ext w w' := by
  obtain ⟨wb, hwb⟩ : ∃ wb, wb = w.alloc (.cells #[v] 26) := ⟨_, rfl⟩
  have hE0 := (Ext.refl w).alloc (.cells #[v] 26)
  have hb := box_cell w v 26
  rw [← hwb] at hE0 hb
  have hg : ∀ W, Ext wb W → Ints W v l := fun W hW => h.ext (hE0.trans hW)
  have hE := Ext.refl wb
  have Hsz : Hid (w.heap.size + 1 = wb.heap.size) := Lib.hid (by rw [hwb]; simp [go_sem])
  have Hwb := Lib.hid hwb
  clear hwb h
  have hbx := hb wb hE
  cases hs : isSetB l a
  · have Hs := Lib.hid (st_no hs)
    go_enter Try.func97, Try.ntmps97
    go_wp2_with fail
    rw [← Hwb.out]
    go_wp2_with (first | (go_at_call 73; refine (sIsSet_val _ _ _ _ (hg _ hE) (hs)).mono ?_; rintro e w' ⟨rfl, hE'⟩; replace hE := hE.trans hE'; clear hE'))
    go_ret
    exact ⟨ret_str Hs.out.symm, hE0.trans hE⟩
  · obtain ⟨n, rfl, h1, h2, hgr⟩ := isSetB_nat hs
    by_cases h0 : n = 0
    · subst h0
      have Hs := Lib.hid (st_zero hs)
      go_enter Try.func97, Try.ntmps97
      go_wp2_with fail
      rw [← Hwb.out]
      go_wp2_with (first | (go_at_call 73; refine (sIsSet_val _ _ _ _ (hg _ hE) (hs)).mono ?_; rintro e w' ⟨rfl, hE'⟩; replace hE := hE.trans hE'; clear hE'))
      go_ret
      exact ⟨ret_str Hs.out.symm, hE0.trans hE⟩
    · have h0' : ((n : Int) == 0) = false := by simp; omega
      have H0 := Lib.hid h0
      have Hgr := Lib.hid hgr
      have hob := ord_bd hgr
      have hfl := fullN_lt l
      have hfb := Nat.lt_of_lt_of_le hfl (pow_ord hgr)
      have hs1 := ishl_one (n := ord l) (by omega)
      have hpw := pw_le hob.2
      have hpp := pw_pos (ord l)
      have Hfw : Hid (((pw (ord l) : Nat) : Int) - 1 = (fullN l : Int)) := Lib.hid (by unfold fullN; omega)
      clear hgr h0
      cases c0 : decide (n = fullN l)
      rotate_left
      ·
        have Hz := Lib.hid (st_0 hs H0.out c0)
        have hfe : ((n : Int) == ((pw (ord l) : Nat) : Int) - 1) = decide (n = fullN l) := (by rw [Hfw.out, Bool.eq_iff_iff]; simp; omega); rw [c0] at hfe
        skip
        go_enter Try.func97, Try.ntmps97
        go_wp2_with fail
        rw [← Hwb.out]
        go_wp2_with (first | (go_at_call 73; refine (sIsSet_val _ _ _ _ (hg _ hE) (hs)).mono ?_; rintro e w' ⟨rfl, hE'⟩; replace hE := hE.trans hE'; clear hE') | (go_at_call 84; refine (l2Order_any _ _ _ (hg _ hE) (Hgr)).mono ?_; rintro e w' ⟨rfl, hE'⟩; replace hE := hE.trans hE'; clear hE'))
        go_ret
        exact ⟨ret_str Hz.out.symm, hE0.trans hE⟩
      cases c1 : cstB l n
      rotate_left
      ·
        have Hz := Lib.hid (st_1 hs H0.out c0 c1)
        have hfe : ((n : Int) == ((pw (ord l) : Nat) : Int) - 1) = decide (n = fullN l) := (by rw [Hfw.out, Bool.eq_iff_iff]; simp; omega); rw [c0] at hfe
        skip
        go_enter Try.func97, Try.ntmps97
        go_wp2_with fail
        rw [← Hwb.out]
        go_wp2_with (first | (go_at_call 73; refine (sIsSet_val _ _ _ _ (hg _ hE) (hs)).mono ?_; rintro e w' ⟨rfl, hE'⟩; replace hE := hE.trans hE'; clear hE') | (go_at_call 84; refine (l2Order_any _ _ _ (hg _ hE) (Hgr)).mono ?_; rintro e w' ⟨rfl, hE'⟩; replace hE := hE.trans hE'; clear hE') | (go_at_call 151; refine (sIsCoset_val _ _ _ _ (hg _ hE) c1).mono ?_; rintro e w' ⟨rfl, hE'⟩; replace hE := hE.trans hE'; clear hE'))
        go_ret
        exact ⟨ret_str Hz.out.symm, hE0.trans hE⟩
      cases c2 : perF l n
      rotate_left
      ·
        have Hz := Lib.hid (st_2 hs H0.out c0 c1 c2)
        have hfe : ((n : Int) == ((pw (ord l) : Nat) : Int) - 1) = decide (n = fullN l) := (by rw [Hfw.out, Bool.eq_iff_iff]; simp; omega); rw [c0] at hfe
        skip
        go_enter Try.func97, Try.ntmps97
        go_wp2_with fail
        rw [← Hwb.out]
        go_wp2_with (first | (go_at_call 73; refine (sIsSet_val _ _ _ _ (hg _ hE) (hs)).mono ?_; rintro e w' ⟨rfl, hE'⟩; replace hE := hE.trans hE'; clear hE') | (go_at_call 84; refine (l2Order_any _ _ _ (hg _ hE) (Hgr)).mono ?_; rintro e w' ⟨rfl, hE'⟩; replace hE := hE.trans hE'; clear hE') | (go_at_call 151; refine (sIsCoset_val _ _ _ _ (hg _ hE) c1).mono ?_; rintro e w' ⟨rfl, hE'⟩; replace hE := hE.trans hE'; clear hE') | (go_at_call 152; refine (sIsPeriodic_val _ _ _ _ (hg _ hE) c2).mono ?_; rintro e w' ⟨rfl, hE'⟩; replace hE := hE.trans hE'; clear hE'))
        go_ret
        exact ⟨ret_str Hz.out.symm, hE0.trans hE⟩
      cases c3 : proB l n
      rotate_left
      ·
        have Hz := Lib.hid (st_3 hs H0.out c0 c1 c2 c3)
        have hfe : ((n : Int) == ((pw (ord l) : Nat) : Int) - 1) = decide (n = fullN l) := (by rw [Hfw.out, Bool.eq_iff_iff]; simp; omega); rw [c0] at hfe
        skip
        go_enter Try.func97, Try.ntmps97
        go_wp2_with fail
        rw [← Hwb.out]
        go_wp2_with (first | (go_at_call 73; refine (sIsSet_val _ _ _ _ (hg _ hE) (hs)).mono ?_; rintro e w' ⟨rfl, hE'⟩; replace hE := hE.trans hE'; clear hE') | (go_at_call 84; refine (l2Order_any _ _ _ (hg _ hE) (Hgr)).mono ?_; rintro e w' ⟨rfl, hE'⟩; replace hE := hE.trans hE'; clear hE') | (go_at_call 151; refine (sIsCoset_val _ _ _ _ (hg _ hE) c1).mono ?_; rintro e w' ⟨rfl, hE'⟩; replace hE := hE.trans hE'; clear hE') | (go_at_call 152; refine (sIsPeriodic_val _ _ _ _ (hg _ hE) c2).mono ?_; rintro e w' ⟨rfl, hE'⟩; replace hE := hE.trans hE'; clear hE') | (go_at_call 153; refine (sIsProgression_val _ _ _ _ (hg _ hE) c3).mono ?_; rintro e w' ⟨rfl, hE'⟩; replace hE := hE.trans hE'; clear hE'))
        go_ret
        exact ⟨ret_str Hz.out.symm, hE0.trans hE⟩
      cases c4 : boxB l n
      rotate_left
      ·
        have Hz := Lib.hid (st_4 hs H0.out c0 c1 c2 c3 c4)
        have hfe : ((n : Int) == ((pw (ord l) : Nat) : Int) - 1) = decide (n = fullN l) := (by rw [Hfw.out, Bool.eq_iff_iff]; simp; omega); rw [c0] at hfe
        skip
        go_enter Try.func97, Try.ntmps97
        go_wp2_with fail
        rw [← Hwb.out]
        go_wp2_with (first | (go_at_call 73; refine (sIsSet_val _ _ _ _ (hg _ hE) (hs)).mono ?_; rintro e w' ⟨rfl, hE'⟩; replace hE := hE.trans hE'; clear hE') | (go_at_call 84; refine (l2Order_any _ _ _ (hg _ hE) (Hgr)).mono ?_; rintro e w' ⟨rfl, hE'⟩; replace hE := hE.trans hE'; clear hE') | (go_at_call 151; refine (sIsCoset_val _ _ _ _ (hg _ hE) c1).mono ?_; rintro e w' ⟨rfl, hE'⟩; replace hE := hE.trans hE'; clear hE') | (go_at_call 152; refine (sIsPeriodic_val _ _ _ _ (hg _ hE) c2).mono ?_; rintro e w' ⟨rfl, hE'⟩; replace hE := hE.trans hE'; clear hE') | (go_at_call 153; refine (sIsProgression_val _ _ _ _ (hg _ hE) c3).mono ?_; rintro e w' ⟨rfl, hE'⟩; replace hE := hE.trans hE'; clear hE') | (go_at_call 154; refine (sIsBox_val _ _ _ _ (hg _ hE) c4).mono ?_; rintro e w' ⟨rfl, hE'⟩; replace hE := hE.trans hE'; clear hE'))
        go_ret
        exact ⟨ret_str Hz.out.symm, hE0.trans hE⟩
      cases c5 : sidB l n
      rotate_left
      ·
        have Hz := Lib.hid (st_5 hs H0.out c0 c1 c2 c3 c4 c5)
        have hfe : ((n : Int) == ((pw (ord l) : Nat) : Int) - 1) = decide (n = fullN l) := (by rw [Hfw.out, Bool.eq_iff_iff]; simp; omega); rw [c0] at hfe
        skip
        go_enter Try.func97, Try.ntmps97
        go_wp2_with fail
        rw [← Hwb.out]
        go_wp2_with (first | (go_at_call 73; refine (sIsSet_val _ _ _ _ (hg _ hE) (hs)).mono ?_; rintro e w' ⟨rfl, hE'⟩; replace hE := hE.trans hE'; clear hE') | (go_at_call 84; refine (l2Order_any _ _ _ (hg _ hE) (Hgr)).mono ?_; rintro e w' ⟨rfl, hE'⟩; replace hE := hE.trans hE'; clear hE') | (go_at_call 151; refine (sIsCoset_val _ _ _ _ (hg _ hE) c1).mono ?_; rintro e w' ⟨rfl, hE'⟩; replace hE := hE.trans hE'; clear hE') | (go_at_call 152; refine (sIsPeriodic_val _ _ _ _ (hg _ hE) c2).mono ?_; rintro e w' ⟨rfl, hE'⟩; replace hE := hE.trans hE'; clear hE') | (go_at_call 153; refine (sIsProgression_val _ _ _ _ (hg _ hE) c3).mono ?_; rintro e w' ⟨rfl, hE'⟩; replace hE := hE.trans hE'; clear hE') | (go_at_call 154; refine (sIsBox_val _ _ _ _ (hg _ hE) c4).mono ?_; rintro e w' ⟨rfl, hE'⟩; replace hE := hE.trans hE'; clear hE') | (go_at_call 104; refine (sIsSidon_val _ _ _ _ (hg _ hE) c5).mono ?_; rintro e w' ⟨rfl, hE'⟩; replace hE := hE.trans hE'; clear hE'))
        go_ret
        exact ⟨ret_str Hz.out.symm, hE0.trans hE⟩
      have Hz := Lib.hid (st_6 hs H0.out c0 c1 c2 c3 c4 c5)
      have hfe : ((n : Int) == ((pw (ord l) : Nat) : Int) - 1) = decide (n = fullN l) := (by rw [Hfw.out, Bool.eq_iff_iff]; simp; omega); rw [c0] at hfe
      skip
      go_enter Try.func97, Try.ntmps97
      go_wp2_with fail
      rw [← Hwb.out]
      go_wp2_with (first | (go_at_call 73; refine (sIsSet_val _ _ _ _ (hg _ hE) (hs)).mono ?_; rintro e w' ⟨rfl, hE'⟩; replace hE := hE.trans hE'; clear hE') | (go_at_call 84; refine (l2Order_any _ _ _ (hg _ hE) (Hgr)).mono ?_; rintro e w' ⟨rfl, hE'⟩; replace hE := hE.trans hE'; clear hE') | (go_at_call 151; refine (sIsCoset_val _ _ _ _ (hg _ hE) c1).mono ?_; rintro e w' ⟨rfl, hE'⟩; replace hE := hE.trans hE'; clear hE') | (go_at_call 152; refine (sIsPeriodic_val _ _ _ _ (hg _ hE) c2).mono ?_; rintro e w' ⟨rfl, hE'⟩; replace hE := hE.trans hE'; clear hE') | (go_at_call 153; refine (sIsProgression_val _ _ _ _ (hg _ hE) c3).mono ?_; rintro e w' ⟨rfl, hE'⟩; replace hE := hE.trans hE'; clear hE') | (go_at_call 154; refine (sIsBox_val _ _ _ _ (hg _ hE) c4).mono ?_; rintro e w' ⟨rfl, hE'⟩; replace hE := hE.trans hE'; clear hE') | (go_at_call 104; refine (sIsSidon_val _ _ _ _ (hg _ hE) c5).mono ?_; rintro e w' ⟨rfl, hE'⟩; replace hE := hE.trans hE'; clear hE'))
      go_ret
      exact ⟨ret_str Hz.out.symm, hE0.trans hE⟩
end Go.Zz
