/- LargestClique of the reference. -/
import Derived.Test.YtgjomoedgmofbaaC79
namespace Go.Zz
open Go.RowKit Go.Proofs
set_option maxHeartbeats 1000000
set_option maxRecDepth 4000

theorem ishl_nat {a n : Nat} (h : n ≤ 62) (hb : a * 2 ^ n < 2 ^ 63) : ishl a n = ((a * 2 ^ n : Nat) : Int) := by
  unfold ishl
  have h1 : min (n : Int).toNat 64 = n := by rw [Int.toNat_natCast]; omega
  rw [h1, show ((a : Int) * 2 ^ n) = ((a * 2 ^ n : Nat) : Int) by simp, wrap_nat hb]
theorem sCl_any (v : Value) (l : List Int) (a : Nat) (Hgr : Hid (isGrp l = true)) (ha : a < 2 ^ ord l) (ho : oppF l a = a) : ∀ (f b fr : Nat) (w : World), Ints w v l → ord l < fr + f → fr ≤ ord l → b < 2 ^ fr →
    Calls Try.prog 170 #[.agg #[v], .int .i64 a, .int .i64 b, .int .i64 (kidN (cliP l a) (ord l) b fr : Nat)] w fun e w' => e = .returned (.int .i64 (fsS (cliP l a) (ord l) f b fr : Nat)) ∧ Ext w w' := by
  intro f
  induction f with
  | zero => intro b fr w h hf hfr; omega
  | succ f ih =>
    intro b fr w h hf hfr hb
    have hob := ord_bd Hgr.out
    have hp24 := pow_ord Hgr.out
    have ha24 : a < 2 ^ 24 := Nat.lt_of_lt_of_le ha hp24
    have hb24 : b < 2 ^ 24 := Nat.lt_of_lt_of_le hb (Nat.pow_le_pow_right (by omega) (by omega))
    obtain ⟨wb, hwb⟩ : ∃ wb, wb = w.alloc (.cells #[v] 26) := ⟨_, rfl⟩
    have hE0 := (Ext.refl w).alloc (.cells #[v] 26)
    have hb := box_cell w v 26
    rw [← hwb] at hE0 hb
    have hg : ∀ W, Ext wb W → Ints W v l := fun W hW => h.ext (hE0.trans hW)
    have hE := Ext.refl wb
    have Hsz : Hid (w.heap.size + 1 = wb.heap.size) := Lib.hid (by rw [hwb]; simp [go_sem])
    have Hwb := Lib.hid hwb
    clear hwb h
    have Hih := Lib.hid ih
    clear ih
    have hM24 : kidN (cliP l a) (ord l) b fr < 2 ^ 24 := Nat.lt_of_lt_of_le (kidN_lt _ _ _ _) hp24
    obtain ⟨M, hM⟩ : ∃ M, M = kidN (cliP l a) (ord l) b fr := ⟨_, rfl⟩
    rw [← hM] at hM24 ⊢
    have He : Hid (fsS (cliP l a) (ord l) (f + 1) b fr = fsSto (cliP l a) (ord l) f b fr (elems M).length) := Lib.hid (by rw [hM]; exact fsS_end _ _ _ _ _)
    have HM := Lib.hid hM
    clear hM
    go_enter Try.func170, Try.ntmps170
    go_wp2_with fail
    rw [← Hwb.out]
    refine (l3List_any M hM24 _).mono ?_
    rintro e1 w1 ⟨v1, rfl, hL, hE1⟩
    obtain ⟨aoL, cL, adrL, rfl, hadrL, hcellL⟩ := hL.ints.nats
    have hixL := ints_index (c := cL) elI szI hadrL
    have hb1 : ∀ W, Ext w1 W → W.cell? ⟨w.heap.size, 0, none⟩ = some v := fun W hW => hb W (hE1.trans hW)
    have hg1 : ∀ W, Ext w1 W → Ints W v l := fun W hW => hg W (hE1.trans hW)
    clear hadrL hb hg hL
    have hL24 : ∀ y ∈ elems M, M.testBit y = true := fun y hy => (mem_elems.1 hy).2
    have hlen := elems_len M
    go_wp2_with fail
    go_loopw [9, 11] (fun bv i wr => ∃ k : Nat, k ≤ (elems M).length ∧ i = .int .i64 k ∧ bv = .int .i64 (fsSto (cliP l a) (ord l) f b fr k : Nat) ∧ fsSto (cliP l a) (ord l) f b fr k < 2 ^ 24 ∧ Ext w1 wr) (fun _ i _ => (elems M).length - (intOf i).toNat)
    case atStart => exact ⟨0, by omega, rfl, rfl, hb24, Ext.refl _⟩
    case round =>
      clear hE
      obtain ⟨k, hk, rfl, rfl, hB24, hE⟩ := hrel
      obtain ⟨B, hB⟩ : ∃ B, B = fsSto (cliP l a) (ord l) f b fr k := ⟨_, rfl⟩
      rw [← hB] at hB24 ⊢
      by_cases hlt : k < (elems M).length
      · have hXm := hL24 _ (nthN_mem hlt)
        have hck := fun U => hcellL k _ hlt (lat_ext w1 U)
        have hbx := fun U => hb1 _ (lat_ext w1 U)
        have Hmore := Lib.hid (fsSto_more (P := cliP l a) (N := ord l) (f := f) (b := b) (fr := fr) (k := k) (by rw [← HM.out]; exact hlt))
        have Hless := Lib.hid (fsSto_less (P := cliP l a) (N := ord l) (f := f) (b := b) (fr := fr) (k := k) (by rw [← HM.out]; exact hlt))
        rw [← HM.out, ← hB] at Hmore Hless
        obtain ⟨X, hX⟩ : ∃ X, X = nthN (elems M) k := ⟨_, rfl⟩
        rw [← hX] at hck hXm Hmore Hless
        have hX1 : X < ord l ∧ fr ≤ X := by
          have := hXm; rw [HM.out, kidN_bit] at this; simp at this; omega
        have hnx : shr (M &&& shiftF l a X) (X + 1) * 2 ^ (X + 1) = kidN (cliP l a) (ord l) (b ||| 2 ^ X) (X + 1) := by
          apply Nat.eq_of_testBit_eq
          intro i
          rw [cut_bits, cli_next Hgr.out ha ho hb (by rw [← HM.out]; exact hXm), ← HM.out]
        have hK24 : kidN (cliP l a) (ord l) (b ||| 2 ^ X) (X + 1) < 2 ^ 24 := Nat.lt_of_lt_of_le (kidN_lt _ _ _ _) hp24
        have hb2 : b ||| 2 ^ X < 2 ^ (X + 1) := Nat.or_lt_two_pow (Nat.lt_of_lt_of_le hb (Nat.pow_le_pow_right (by omega) (by omega))) (Nat.pow_lt_pow_right (by omega) (by omega))
        have hcR := fun W (hW : Ext w1 W) => Hih.out (b ||| 2 ^ X) (X + 1) W (hg1 W hW) (by omega) (by omega) hb2
        have hS24 := shiftF_bd Hgr.out a X
        have hand : iand (M : Int) (shiftF l a X : Int) = ((M &&& shiftF l a X : Nat) : Int) := iand_nat (by omega) (by omega)
        have hsr := ishr_nat (a := M &&& shiftF l a X) (n := X + 1) (by omega)
        have hsl := ishl_nat (a := shr (M &&& shiftF l a X) (X + 1)) (n := X + 1) (by omega) (by rw [hnx]; omega)
        rw [hnx] at hsl
        have hcut : wrap64 (((M &&& shiftF l a X : Nat) : Int) / 2 ^ (X + 1) * 2 ^ (X + 1)) = ((kidN (cliP l a) (ord l) (b ||| 2 ^ X) (X + 1) : Nat) : Int) := by
          have e : ((M &&& shiftF l a X : Nat) : Int) / 2 ^ (X + 1) * 2 ^ (X + 1) = ((kidN (cliP l a) (ord l) (b ||| 2 ^ X) (X + 1) : Nat) : Int) := by
            rw [← hnx]; unfold shr; rw [Nat.shiftRight_eq_div_pow]; simp
          rw [e]
          exact IntWalk.wrap64_in _ ⟨by omega, by omega⟩
        rw [show ((X + 1 : Nat) : Int) = (X : Int) + 1 by omega] at hsr hsl
        have hs1 := ishl_one (n := X) (by omega)
        have hs2 := ior_pw hb24 (show X < 24 by omega)
        obtain ⟨Y, hY⟩ : ∃ Y, Y = fsS (cliP l a) (ord l) f (b ||| 2 ^ X) (X + 1) := ⟨_, rfl⟩
        rw [← hY] at hcR Hmore Hless
        have hY24 : Y < 2 ^ 24 := by rw [hY]; exact fsS_lt (cliP l a) (ord l) hob.2 f _ _ (Nat.or_lt_two_pow hb24 (Nat.pow_lt_pow_right (by omega) (by omega)))
        obtain ⟨K, hKd⟩ : ∃ K, K = kidN (cliP l a) (ord l) (b ||| 2 ^ X) (X + 1) := ⟨_, rfl⟩
        rw [← hKd] at hcR hsl hK24 hcut
        have hX24 : X < 24 := by omega
        have hbY := fun W => l3Bits_any Y hY24 W
        have hbB := fun W => l3Bits_any B hB24 W
        have hcB1 := cnt_le B
        have hcY1 := cnt_le Y
        clear hX hnx hb2 hY hKd hB
        by_cases hq : cnt B < cnt Y
        · go_wp2_with fail
          (refine wp_region_lat (w1) (by kernel_rfl) (by kernel_rfl) hE ?_); (repeat (go_big_quiet_step (first | (go_at_call 160; exact Calls.lat (l3Shift_any _ _ _ _ _ (hg1 _ (lat_ext w1 _)) (Hgr) (ha24) (hX24)))))); (refine wpQuiet_nil ?_); (intro W hE'); (replace hE := lat_of hE'); (clear hE')
          go_wp2_with fail
          try rw [hcut]
          (refine wp_region_lat (w1) (by kernel_rfl) (by kernel_rfl) hE ?_); (repeat (go_big_quiet_step (first | (go_at_call 170; exact Calls.lat (hcR _ (lat_ext w1 _)))))); (refine wpQuiet_nil ?_); (intro W hE'); (replace hE := lat_of hE'); (clear hE')
          go_wp2_with (first | (go_at_call 117; with_reducible refine Calls.mono (hbY _) ?_; rintro e' w' ⟨rfl, rfl⟩) | (go_at_call 117; with_reducible refine Calls.mono (hbB _) ?_; rintro e' w' ⟨rfl, rfl⟩))
          go_roundw
          case rel => exact ⟨k + 1, by omega, by go_num, by rw [Hmore.out hq], by rw [Hmore.out hq]; exact hY24, hE⟩
          case measure => (simp [intOf]; omega)
        · go_wp2_with fail
          (refine wp_region_lat (w1) (by kernel_rfl) (by kernel_rfl) hE ?_); (repeat (go_big_quiet_step (first | (go_at_call 160; exact Calls.lat (l3Shift_any _ _ _ _ _ (hg1 _ (lat_ext w1 _)) (Hgr) (ha24) (hX24)))))); (refine wpQuiet_nil ?_); (intro W hE'); (replace hE := lat_of hE'); (clear hE')
          go_wp2_with fail
          try rw [hcut]
          (refine wp_region_lat (w1) (by kernel_rfl) (by kernel_rfl) hE ?_); (repeat (go_big_quiet_step (first | (go_at_call 170; exact Calls.lat (hcR _ (lat_ext w1 _)))))); (refine wpQuiet_nil ?_); (intro W hE'); (replace hE := lat_of hE'); (clear hE')
          go_wp2_with (first | (go_at_call 117; with_reducible refine Calls.mono (hbY _) ?_; rintro e' w' ⟨rfl, rfl⟩) | (go_at_call 117; with_reducible refine Calls.mono (hbB _) ?_; rintro e' w' ⟨rfl, rfl⟩))
          go_roundw
          case rel => exact ⟨k + 1, by omega, by go_num, by rw [Hless.out hq], by rw [Hless.out hq]; exact hB24, hE⟩
          case measure => (simp [intOf]; omega)
      · have Hn : Hid (fsS (cliP l a) (ord l) (f + 1) b fr = B) := Lib.hid (by rw [He.out, hB, show k = (elems M).length by omega])
        clear hB
        go_wp2_with fail
        go_ret
        exact ⟨ret_int (by rw [Hn.out]), hE0.trans (hE1.trans hE)⟩
theorem sLargestClique_any (v : Value) (l : List Int) (a : Int) (w : World) (h : Ints w v l) :
    Calls Try.prog 82 #[.agg #[v], .int .i64 a] w fun e w' => e = .returned (.tuple #[.int .i64 (lcV l a), .bool (lcF l a)]) ∧ Ext w w' := by
  obtain ⟨wb, hwb⟩ : ∃ wb, wb = w.alloc (.cells #[v] 26) := ⟨_, rfl⟩
  have hE0 := (Ext.refl w).alloc (.cells #[v] 26)
  have hb := box_cell w v 26
  rw [← hwb] at hE0 hb
  have hg : ∀ W, Ext wb W → Ints W v l := fun W hW => h.ext (hE0.trans hW)
  have hE := Ext.refl wb
  have Hsz : Hid (w.heap.size + 1 = wb.heap.size) := Lib.hid (by rw [hwb]; simp [go_sem])
  have Hwb := Lib.hid hwb
  clear hwb h
  have hbx := hb wb hE
  cases hc : connB l a
  · have Hs : Hid (lcF l a = false ∧ lcV l a = 0) := Lib.hid (by
      have e : lcF l a = false := by unfold lcF; rw [hc]; rfl
      exact ⟨e, by unfold lcV; rw [e]; rfl⟩)
    go_enter Try.func82, Try.ntmps82
    go_wp2_with fail
    rw [← Hwb.out]
    go_wp2_with (first | (go_at_call 165; refine (sIsConnection_val _ _ _ _ (hg _ hE) (hc)).mono ?_; rintro e w' ⟨rfl, hE'⟩; replace hE := hE.trans hE'; clear hE'))
    exact bodyPost_ret (v := .tuple #[.int .i64 0, .bool false]) (by simp [results, Try.results82, go_sem]) rfl ⟨by rw [Hs.out.1, Hs.out.2], hE0.trans hE⟩
  · obtain ⟨n, rfl, hn, hn24, hgr⟩ := connB_nat hc
    have hop : oppF l n = n := by
      have := hc; unfold connB at this; simp only [Bool.and_eq_true, decide_eq_true_eq] at this; exact this.2
    have Hgr := Lib.hid hgr
    have hob := ord_bd hgr
    clear hgr
    by_cases ho : ord l ≤ 16
    · have Hs : Hid (lcF l n = true ∧ lcV l n = (fsS (cliP l n) (ord l) (ord l + 1) 0 0 : Nat)) := Lib.hid (by
        have e : lcF l n = true := by unfold lcF; rw [hc]; simpa using ho
        exact ⟨e, by unfold lcV; rw [e]; rfl⟩)
      have hcC : ∀ W, Ext wb W → Calls Try.prog 170 #[.agg #[v], .int .i64 n, .int .i64 0, .int .i64 (fullN l : Nat)] W fun e w' => e = .returned (.int .i64 (fsS (cliP l n) (ord l) (ord l + 1) 0 0 : Nat)) ∧ Ext W w' := fun W hW => by
        have := sCl_any v l n Hgr hn hop (ord l + 1) 0 0 W (hg W hW) (by omega) (by omega) (by decide)
        rw [cli_start Hgr.out] at this; exact this
      have hs1 := ishl_one (n := ord l) (by omega)
      have hpw := pw_le (n := ord l) hob.2
      have hpw1 := pw_pos (ord l)
      have hwr : ((pw (ord l) : Nat) : Int) - 1 = ((fullN l : Nat) : Int) := by unfold fullN; omega
      have kb := fun U => hb _ (lat_ext wb U)
      clear hop
      go_enter Try.func82, Try.ntmps82
      go_wp2_with fail
      rw [← Hwb.out]
      go_wp2_with (first | (go_at_call 165; refine (sIsConnection_val _ _ _ _ (hg _ hE) (hc)).mono ?_; rintro e w' ⟨rfl, hE'⟩; replace hE := hE.trans hE'; clear hE') | (go_at_call 115; refine (l2Order_any _ _ _ (hg _ hE) (Hgr)).mono ?_; rintro e w' ⟨rfl, hE'⟩; replace hE := hE.trans hE'; clear hE'))
      (refine wp_region_lat (wb) (by kernel_rfl) (by kernel_rfl) hE ?_); (repeat (go_big_quiet_step (first | (go_at_call 115; exact Calls.lat (l2Order_any _ _ _ (hg _ (lat_ext wb _)) (Hgr))) | (go_at_call 170; exact Calls.lat (hcC _ (lat_ext wb _)))))); (refine wpQuiet_nil ?_); (intro W hE'); (replace hE := lat_of hE'); (clear hE')
      go_wp2_with fail
      exact bodyPost_ret (v := .tuple #[.int .i64 (fsS (cliP l n) (ord l) (ord l + 1) 0 0 : Nat), .bool true]) (by simp [results, Try.results82, go_sem]) rfl ⟨by rw [Hs.out.1, Hs.out.2], hE0.trans hE⟩
    · have Hs : Hid (lcF l n = false ∧ lcV l n = 0) := Lib.hid (by
        have e : lcF l n = false := by unfold lcF; rw [hc]; simpa using ho
        exact ⟨e, by unfold lcV; rw [e]; rfl⟩)
      clear hop
      go_enter Try.func82, Try.ntmps82
      go_wp2_with fail
      rw [← Hwb.out]
      go_wp2_with (first | (go_at_call 165; refine (sIsConnection_val _ _ _ _ (hg _ hE) (hc)).mono ?_; rintro e w' ⟨rfl, hE'⟩; replace hE := hE.trans hE'; clear hE') | (go_at_call 115; refine (l2Order_any _ _ _ (hg _ hE) (Hgr)).mono ?_; rintro e w' ⟨rfl, hE'⟩; replace hE := hE.trans hE'; clear hE'))
      exact bodyPost_ret (v := .tuple #[.int .i64 0, .bool false]) (by simp [results, Try.results82, go_sem]) rfl ⟨by rw [Hs.out.1, Hs.out.2], hE0.trans hE⟩
end Go.Zz
