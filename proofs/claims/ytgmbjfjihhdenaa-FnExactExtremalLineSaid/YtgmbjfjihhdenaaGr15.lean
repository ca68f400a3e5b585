/- The search for a first largest set: the references. Sets without sums: both. -/
import Derived.Test.YtgmbjfjihhdenaaGr12
import Derived.Test.YtgmbjfjihhdenaaGr5
import Derived.Test.YtgmbjfjihhdenaaGr14
namespace Go.Zz
open Go.RowKit Go.Proofs
set_option maxHeartbeats 2000000
set_option maxRecDepth 4000

theorem fsK_lt (P : Nat → Bool) (N : Nat) (hN : N ≤ 24) (f b fr k : Nat) (hb : b < 2 ^ 24) : fsK P N f b fr k < 2 ^ 24 := by
  unfold fsK
  have : ∀ (L : List Nat) (r : Nat), r < 2 ^ 24 → (∀ x ∈ L, x < 24) → L.foldl (fun (best x : Nat) => if cnt best < cnt (fsS P N f (b ||| 2 ^ x) (x + 1)) then fsS P N f (b ||| 2 ^ x) (x + 1) else best) r < 2 ^ 24 := by
    intro L
    induction L with
    | nil => intro r hr _; exact hr
    | cons x L ih =>
      intro r hr hL
      rw [List.foldl_cons]
      refine ih _ ?_ fun y hy => hL y (by simp [hy])
      split
      · exact fsS_lt P N hN f _ _ (Nat.or_lt_two_pow hb (Nat.pow_lt_pow_right (by omega) (hL x (by simp))))
      · exact hr
  refine this _ b hb fun x hx => ?_
  have h1 := (List.mem_filter.1 hx).2
  have := bit_lt (kidN_lt P N b fr) h1
  omega
theorem sLgFree_any (v : Value) (l : List Int) (P : Nat → Bool) (Hgr : Hid (isGrp l = true)) (HP : Hid (∀ W b, Ints W v l → b < 2 ^ ord l → Calls Try.prog 226 #[.agg #[v], .int .i64 (b : Nat)] W fun e w' => e = .returned (.bool (P b)) ∧ Ext W w')) :
    ∀ (f b fr : Nat) (w : World), Ints w v l → ord l < fr + f → fr ≤ ord l → b < 2 ^ fr →
    Calls Try.prog 187 #[.agg #[v], .int .i64 b, .int .i64 fr] w fun e w' => e = .returned (.int .i64 (fsS P (ord l) f b fr : Nat)) ∧ Ext w w' := by
  intro f
  induction f with
  | zero => intro b fr w h hf hfr; omega
  | succ f ih =>
    intro b fr w h hf hfr hbf
    have hob := ord_bd Hgr.out
    have hp24 := pow_ord Hgr.out
    have hb24 : b < 2 ^ 24 := Nat.lt_of_lt_of_le hbf (Nat.pow_le_pow_right (by omega) (by omega))
    obtain ⟨wb, hwb⟩ : ∃ wb, wb = w.alloc (.cells #[v] 31) := ⟨_, rfl⟩
    have hE0 := (Ext.refl w).alloc (.cells #[v] 31)
    have hb := box_cell w v 31
    rw [← hwb] at hE0 hb
    have hg : ∀ W, Ext wb W → Ints W v l := fun W hW => h.ext (hE0.trans hW)
    have hE := Ext.refl wb
    have Hsz : Hid (w.heap.size + 1 = wb.heap.size) := Lib.hid (by rw [hwb]; simp [go_sem])
    have Hwb := Lib.hid hwb
    clear hwb h
    have Hih := Lib.hid ih
    clear ih
    have He : Hid (fsS P (ord l) (f + 1) b fr = fsK P (ord l) f b fr (ord l)) := Lib.hid (fsK_end hob.2 f b fr)
    have Hst := Lib.hid (fsK_start P (ord l) f b fr)
    have HB := Lib.hid (fun k => fsK_lt P (ord l) hob.2 f b fr k hb24)
    go_enter Try.func187, Try.ntmps187
    go_wp2_with fail
    rw [← Hwb.out]
    go_loopw [7, 8] (fun bv xv wr => ∃ k : Nat, fr ≤ k ∧ k ≤ ord l ∧ xv = .int .i64 k ∧ bv = .int .i64 (fsK P (ord l) f b fr k : Nat) ∧ Ext wb wr) (fun _ xv _ => ord l - (intOf xv).toNat)
    case atStart => exact ⟨fr, Nat.le_refl _, hfr, rfl, by rw [Hst.out], hE⟩
    case round =>
      clear hE
      obtain ⟨k, hk1, hk2, rfl, rfl, hE⟩ := hrel
      have hB24 := HB.out k
      have cO := l2Order_any v l wr (hg _ hE) Hgr
      by_cases hlt : k < ord l
      · have hk24 : k < 24 := by omega
        have hs1 := ishl_one (n := k) (by omega)
        have hs2 := ior_pw hb24 hk24
        have hbk : b ||| 2 ^ k < 2 ^ (k + 1) := Nat.or_lt_two_pow (Nat.lt_of_lt_of_le hbf (Nat.pow_le_pow_right (by omega) (by omega))) (Nat.pow_lt_pow_right (by omega) (by omega))
        have hbo : b ||| 2 ^ k < 2 ^ ord l := Nat.lt_of_lt_of_le hbk (Nat.pow_le_pow_right (by omega) (by omega))
        have hcP := fun W (hW : Ext wr W) => HP.out W (b ||| 2 ^ k) (hg _ (hE.trans hW)) hbo
        have hcR := fun W (hW : Ext wr W) => Hih.out (b ||| 2 ^ k) (k + 1) W (hg _ (hE.trans hW)) (by omega) (by omega) hbk
        rw [show ((k + 1 : Nat) : Int) = (k : Int) + 1 by omega] at hcR
        obtain ⟨Y, hY⟩ : ∃ Y, Y = fsS P (ord l) f (b ||| 2 ^ k) (k + 1) := ⟨_, rfl⟩
        have hY24 : Y < 2 ^ 24 := by rw [hY]; exact fsS_lt P (ord l) hob.2 f _ _ (Nat.lt_of_lt_of_le hbo hp24)
        obtain ⟨B, hB⟩ : ∃ B, B = fsK P (ord l) f b fr k := ⟨_, rfl⟩
        have Hno := Lib.hid (fun h => fsK_no (P := P) (N := ord l) (f := f) (b := b) (fr := fr) (k := k) h)
        have Hmo := Lib.hid (fun h => fsK_more (P := P) (N := ord l) (f := f) (b := b) (fr := fr) (k := k) hlt hk1 h)
        have Hle := Lib.hid (fun h => fsK_less (P := P) (N := ord l) (f := f) (b := b) (fr := fr) (k := k) hlt hk1 h)
        rw [← hB, ← hY] at Hmo Hle
        rw [← hB] at Hno hB24 ⊢
        rw [← hY] at hcR
        have hbY := fun W => l3Bits_any Y hY24 W
        have hbB := fun W => l3Bits_any B hB24 W
        have hcB1 := cnt_le B
        have hcY1 := cnt_le Y
        clear hY hB hbk hbo
        cases hP : P (b ||| 2 ^ k)
        · have Hn := Lib.hid (Hno.out hP)
          rw [hP] at hcP
          clear hP
          go_wp2_with (first | (go_at_call 106; refine cO.mono ?_; rintro e1 w1 ⟨rfl, hE1⟩; have hE01 := hE.trans hE1) | (go_at_call 226; refine (hcP _ hE1).mono ?_; rintro e2 w2 ⟨rfl, hE2⟩; have hE12 := hE1.trans hE2; have hE02 := hE.trans hE12; skip))
          go_roundw
          case rel => exact ⟨k + 1, by omega, by omega, by go_num, by rw [Hn.out], hE02⟩
          case measure => (simp [intOf]; omega)
        · rw [hP] at hcP
          by_cases hq : cnt B < cnt Y
          · have Hn := Lib.hid (Hmo.out hP hq)
            clear hP
            go_wp2_with (first | (go_at_call 106; refine cO.mono ?_; rintro e1 w1 ⟨rfl, hE1⟩; have hE01 := hE.trans hE1) | (go_at_call 226; refine (hcP _ hE1).mono ?_; rintro e2 w2 ⟨rfl, hE2⟩; have hE12 := hE1.trans hE2; have hE02 := hE.trans hE12; skip) | (go_at_call 187; refine (hcR _ hE12).mono ?_; rintro e3 w3 ⟨rfl, hE3⟩; have hE03 := hE02.trans hE3) | (go_at_call 151; with_reducible refine Calls.mono (hbY _) ?_; rintro e' w' ⟨rfl, rfl⟩) | (go_at_call 151; with_reducible refine Calls.mono (hbB _) ?_; rintro e' w' ⟨rfl, rfl⟩))
            go_roundw
            case rel => exact ⟨k + 1, by omega, by omega, by go_num, by rw [Hn.out], hE03⟩
            case measure => (simp [intOf]; omega)
          · have Hn := Lib.hid (Hle.out hP hq)
            clear hP
            go_wp2_with (first | (go_at_call 106; refine cO.mono ?_; rintro e1 w1 ⟨rfl, hE1⟩; have hE01 := hE.trans hE1) | (go_at_call 226; refine (hcP _ hE1).mono ?_; rintro e2 w2 ⟨rfl, hE2⟩; have hE12 := hE1.trans hE2; have hE02 := hE.trans hE12; skip) | (go_at_call 187; refine (hcR _ hE12).mono ?_; rintro e3 w3 ⟨rfl, hE3⟩; have hE03 := hE02.trans hE3) | (go_at_call 151; with_reducible refine Calls.mono (hbY _) ?_; rintro e' w' ⟨rfl, rfl⟩) | (go_at_call 151; with_reducible refine Calls.mono (hbB _) ?_; rintro e' w' ⟨rfl, rfl⟩))
            go_roundw
            case rel => exact ⟨k + 1, by omega, by omega, by go_num, by rw [Hn.out], hE03⟩
            case measure => (simp [intOf]; omega)
      · have hkl : k = ord l := by omega
        have Hn := Lib.hid (show fsS P (ord l) (f + 1) b fr = fsK P (ord l) f b fr k by rw [He.out, hkl])
        clear hkl
        go_wp2_with (go_at_call 106; refine cO.mono ?_; rintro e1 w1 ⟨rfl, hE1⟩)
        go_ret
        exact ⟨ret_int (by rw [Hn.out]), hE0.trans (hE.trans hE1)⟩
theorem sLgSid_any (v : Value) (l : List Int) (P : Nat → Bool) (Hgr : Hid (isGrp l = true)) (HP : Hid (∀ W b, Ints W v l → b < 2 ^ ord l → Calls Try.prog 227 #[.agg #[v], .int .i64 (b : Nat)] W fun e w' => e = .returned (.bool (P b)) ∧ Ext W w')) :
    ∀ (f b fr : Nat) (w : World), Ints w v l → ord l < fr + f → fr ≤ ord l → b < 2 ^ fr →
    Calls Try.prog 188 #[.agg #[v], .int .i64 b, .int .i64 fr] w fun e w' => e = .returned (.int .i64 (fsS P (ord l) f b fr : Nat)) ∧ Ext w w' := by
  intro f
  induction f with
  | zero => intro b fr w h hf hfr; omega
  | succ f ih =>
    intro b fr w h hf hfr hbf
    have hob := ord_bd Hgr.out
    have hp24 := pow_ord Hgr.out
    have hb24 : b < 2 ^ 24 := Nat.lt_of_lt_of_le hbf (Nat.pow_le_pow_right (by omega) (by omega))
    obtain ⟨wb, hwb⟩ : ∃ wb, wb = w.alloc (.cells #[v] 31) := ⟨_, rfl⟩
    have hE0 := (Ext.refl w).alloc (.cells #[v] 31)
    have hb := box_cell w v 31
    rw [← hwb] at hE0 hb
    have hg : ∀ W, Ext wb W → Ints W v l := fun W hW => h.ext (hE0.trans hW)
    have hE := Ext.refl wb
    have Hsz : Hid (w.heap.size + 1 = wb.heap.size) := Lib.hid (by rw [hwb]; simp [go_sem])
    have Hwb := Lib.hid hwb
    clear hwb h
    have Hih := Lib.hid ih
    clear ih
    have He : Hid (fsS P (ord l) (f + 1) b fr = fsK P (ord l) f b fr (ord l)) := Lib.hid (fsK_end hob.2 f b fr)
    have Hst := Lib.hid (fsK_start P (ord l) f b fr)
    have HB := Lib.hid (fun k => fsK_lt P (ord l) hob.2 f b fr k hb24)
    go_enter Try.func188, Try.ntmps188
    go_wp2_with fail
    rw [← Hwb.out]
    go_loopw [7, 8] (fun bv xv wr => ∃ k : Nat, fr ≤ k ∧ k ≤ ord l ∧ xv = .int .i64 k ∧ bv = .int .i64 (fsK P (ord l) f b fr k : Nat) ∧ Ext wb wr) (fun _ xv _ => ord l - (intOf xv).toNat)
    case atStart => exact ⟨fr, Nat.le_refl _, hfr, rfl, by rw [Hst.out], hE⟩
    case round =>
      clear hE
      obtain ⟨k, hk1, hk2, rfl, rfl, hE⟩ := hrel
      have hB24 := HB.out k
      have cO := l2Order_any v l wr (hg _ hE) Hgr
      by_cases hlt : k < ord l
      · have hk24 : k < 24 := by omega
        have hs1 := ishl_one (n := k) (by omega)
        have hs2 := ior_pw hb24 hk24
        have hbk : b ||| 2 ^ k < 2 ^ (k + 1) := Nat.or_lt_two_pow (Nat.lt_of_lt_of_le hbf (Nat.pow_le_pow_right (by omega) (by omega))) (Nat.pow_lt_pow_right (by omega) (by omega))
        have hbo : b ||| 2 ^ k < 2 ^ ord l := Nat.lt_of_lt_of_le hbk (Nat.pow_le_pow_right (by omega) (by omega))
        have hcP := fun W (hW : Ext wr W) => HP.out W (b ||| 2 ^ k) (hg _ (hE.trans hW)) hbo
        have hcR := fun W (hW : Ext wr W) => Hih.out (b ||| 2 ^ k) (k + 1) W (hg _ (hE.trans hW)) (by omega) (by omega) hbk
        rw [show ((k + 1 : Nat) : Int) = (k : Int) + 1 by omega] at hcR
        obtain ⟨Y, hY⟩ : ∃ Y, Y = fsS P (ord l) f (b ||| 2 ^ k) (k + 1) := ⟨_, rfl⟩
        have hY24 : Y < 2 ^ 24 := by rw [hY]; exact fsS_lt P (ord l) hob.2 f _ _ (Nat.lt_of_lt_of_le hbo hp24)
        obtain ⟨B, hB⟩ : ∃ B, B = fsK P (ord l) f b fr k := ⟨_, rfl⟩
        have Hno := Lib.hid (fun h => fsK_no (P := P) (N := ord l) (f := f) (b := b) (fr := fr) (k := k) h)
        have Hmo := Lib.hid (fun h => fsK_more (P := P) (N := ord l) (f := f) (b := b) (fr := fr) (k := k) hlt hk1 h)
        have Hle := Lib.hid (fun h => fsK_less (P := P) (N := ord l) (f := f) (b := b) (fr := fr) (k := k) hlt hk1 h)
        rw [← hB, ← hY] at Hmo Hle
        rw [← hB] at Hno hB24 ⊢
        rw [← hY] at hcR
        have hbY := fun W => l3Bits_any Y hY24 W
        have hbB := fun W => l3Bits_any B hB24 W
        have hcB1 := cnt_le B
        have hcY1 := cnt_le Y
        clear hY hB hbk hbo
        cases hP : P (b ||| 2 ^ k)
        · have Hn := Lib.hid (Hno.out hP)
          rw [hP] at hcP
          clear hP
          go_wp2_with (first | (go_at_call 106; refine cO.mono ?_; rintro e1 w1 ⟨rfl, hE1⟩; have hE01 := hE.trans hE1) | (go_at_call 227; refine (hcP _ hE1).mono ?_; rintro e2 w2 ⟨rfl, hE2⟩; have hE12 := hE1.trans hE2; have hE02 := hE.trans hE12; skip))
          go_roundw
          case rel => exact ⟨k + 1, by omega, by omega, by go_num, by rw [Hn.out], hE02⟩
          case measure => (simp [intOf]; omega)
        · rw [hP] at hcP
          by_cases hq : cnt B < cnt Y
          · have Hn := Lib.hid (Hmo.out hP hq)
            clear hP
            go_wp2_with (first | (go_at_call 106; refine cO.mono ?_; rintro e1 w1 ⟨rfl, hE1⟩; have hE01 := hE.trans hE1) | (go_at_call 227; refine (hcP _ hE1).mono ?_; rintro e2 w2 ⟨rfl, hE2⟩; have hE12 := hE1.trans hE2; have hE02 := hE.trans hE12; skip) | (go_at_call 188; refine (hcR _ hE12).mono ?_; rintro e3 w3 ⟨rfl, hE3⟩; have hE03 := hE02.trans hE3) | (go_at_call 151; with_reducible refine Calls.mono (hbY _) ?_; rintro e' w' ⟨rfl, rfl⟩) | (go_at_call 151; with_reducible refine Calls.mono (hbB _) ?_; rintro e' w' ⟨rfl, rfl⟩))
            go_roundw
            case rel => exact ⟨k + 1, by omega, by omega, by go_num, by rw [Hn.out], hE03⟩
            case measure => (simp [intOf]; omega)
          · have Hn := Lib.hid (Hle.out hP hq)
            clear hP
            go_wp2_with (first | (go_at_call 106; refine cO.mono ?_; rintro e1 w1 ⟨rfl, hE1⟩; have hE01 := hE.trans hE1) | (go_at_call 227; refine (hcP _ hE1).mono ?_; rintro e2 w2 ⟨rfl, hE2⟩; have hE12 := hE1.trans hE2; have hE02 := hE.trans hE12; skip) | (go_at_call 188; refine (hcR _ hE12).mono ?_; rintro e3 w3 ⟨rfl, hE3⟩; have hE03 := hE02.trans hE3) | (go_at_call 151; with_reducible refine Calls.mono (hbY _) ?_; rintro e' w' ⟨rfl, rfl⟩) | (go_at_call 151; with_reducible refine Calls.mono (hbB _) ?_; rintro e' w' ⟨rfl, rfl⟩))
            go_roundw
            case rel => exact ⟨k + 1, by omega, by omega, by go_num, by rw [Hn.out], hE03⟩
            case measure => (simp [intOf]; omega)
      · have hkl : k = ord l := by omega
        have Hn := Lib.hid (show fsS P (ord l) (f + 1) b fr = fsK P (ord l) f b fr k by rw [He.out, hkl])
        clear hkl
        go_wp2_with (go_at_call 106; refine cO.mono ?_; rintro e1 w1 ⟨rfl, hE1⟩)
        go_ret
        exact ⟨ret_int (by rw [Hn.out]), hE0.trans (hE.trans hE1)⟩
theorem sLgAp_any (v : Value) (l : List Int) (P : Nat → Bool) (Hgr : Hid (isGrp l = true)) (HP : Hid (∀ W b, Ints W v l → b < 2 ^ ord l → Calls Try.prog 228 #[.agg #[v], .int .i64 (b : Nat)] W fun e w' => ∃ n : Int, e = .returned (.int .i64 n) ∧ (n != 0) = !(P b) ∧ Ext W w')) :
    ∀ (f b fr : Nat) (w : World), Ints w v l → ord l < fr + f → fr ≤ ord l → b < 2 ^ fr →
    Calls Try.prog 189 #[.agg #[v], .int .i64 b, .int .i64 fr] w fun e w' => e = .returned (.int .i64 (fsS P (ord l) f b fr : Nat)) ∧ Ext w w' := by
  intro f
  induction f with
  | zero => intro b fr w h hf hfr; omega
  | succ f ih =>
    intro b fr w h hf hfr hbf
    have hob := ord_bd Hgr.out
    have hp24 := pow_ord Hgr.out
    have hb24 : b < 2 ^ 24 := Nat.lt_of_lt_of_le hbf (Nat.pow_le_pow_right (by omega) (by omega))
    obtain ⟨wb, hwb⟩ : ∃ wb, wb = w.alloc (.cells #[v] 31) := ⟨_, rfl⟩
    have hE0 := (Ext.refl w).alloc (.cells #[v] 31)
    have hb := box_cell w v 31
    rw [← hwb] at hE0 hb
    have hg : ∀ W, Ext wb W → Ints W v l := fun W hW => h.ext (hE0.trans hW)
    have hE := Ext.refl wb
    have Hsz : Hid (w.heap.size + 1 = wb.heap.size) := Lib.hid (by rw [hwb]; simp [go_sem])
    have Hwb := Lib.hid hwb
    clear hwb h
    have Hih := Lib.hid ih
    clear ih
    have He : Hid (fsS P (ord l) (f + 1) b fr = fsK P (ord l) f b fr (ord l)) := Lib.hid (fsK_end hob.2 f b fr)
    have Hst := Lib.hid (fsK_start P (ord l) f b fr)
    have HB := Lib.hid (fun k => fsK_lt P (ord l) hob.2 f b fr k hb24)
    go_enter Try.func189, Try.ntmps189
    go_wp2_with fail
    rw [← Hwb.out]
    go_loopw [7, 8] (fun bv xv wr => ∃ k : Nat, fr ≤ k ∧ k ≤ ord l ∧ xv = .int .i64 k ∧ bv = .int .i64 (fsK P (ord l) f b fr k : Nat) ∧ Ext wb wr) (fun _ xv _ => ord l - (intOf xv).toNat)
    case atStart => exact ⟨fr, Nat.le_refl _, hfr, rfl, by rw [Hst.out], hE⟩
    case round =>
      clear hE
      obtain ⟨k, hk1, hk2, rfl, rfl, hE⟩ := hrel
      have hB24 := HB.out k
      have cO := l2Order_any v l wr (hg _ hE) Hgr
      by_cases hlt : k < ord l
      · have hk24 : k < 24 := by omega
        have hs1 := ishl_one (n := k) (by omega)
        have hs2 := ior_pw hb24 hk24
        have hbk : b ||| 2 ^ k < 2 ^ (k + 1) := Nat.or_lt_two_pow (Nat.lt_of_lt_of_le hbf (Nat.pow_le_pow_right (by omega) (by omega))) (Nat.pow_lt_pow_right (by omega) (by omega))
        have hbo : b ||| 2 ^ k < 2 ^ ord l := Nat.lt_of_lt_of_le hbk (Nat.pow_le_pow_right (by omega) (by omega))
        have hcP := fun W (hW : Ext wr W) => HP.out W (b ||| 2 ^ k) (hg _ (hE.trans hW)) hbo
        have hcR := fun W (hW : Ext wr W) => Hih.out (b ||| 2 ^ k) (k + 1) W (hg _ (hE.trans hW)) (by omega) (by omega) hbk
        rw [show ((k + 1 : Nat) : Int) = (k : Int) + 1 by omega] at hcR
        obtain ⟨Y, hY⟩ : ∃ Y, Y = fsS P (ord l) f (b ||| 2 ^ k) (k + 1) := ⟨_, rfl⟩
        have hY24 : Y < 2 ^ 24 := by rw [hY]; exact fsS_lt P (ord l) hob.2 f _ _ (Nat.lt_of_lt_of_le hbo hp24)
        obtain ⟨B, hB⟩ : ∃ B, B = fsK P (ord l) f b fr k := ⟨_, rfl⟩
        have Hno := Lib.hid (fun h => fsK_no (P := P) (N := ord l) (f := f) (b := b) (fr := fr) (k := k) h)
        have Hmo := Lib.hid (fun h => fsK_more (P := P) (N := ord l) (f := f) (b := b) (fr := fr) (k := k) hlt hk1 h)
        have Hle := Lib.hid (fun h => fsK_less (P := P) (N := ord l) (f := f) (b := b) (fr := fr) (k := k) hlt hk1 h)
        rw [← hB, ← hY] at Hmo Hle
        rw [← hB] at Hno hB24 ⊢
        rw [← hY] at hcR
        have hbY := fun W => l3Bits_any Y hY24 W
        have hbB := fun W => l3Bits_any B hB24 W
        have hcB1 := cnt_le B
        have hcY1 := cnt_le Y
        clear hY hB hbk hbo
        cases hP : P (b ||| 2 ^ k)
        · have Hn := Lib.hid (Hno.out hP)
          rw [hP] at hcP
          clear hP
          go_wp2_with (first | (go_at_call 106; refine cO.mono ?_; rintro e1 w1 ⟨rfl, hE1⟩; have hE01 := hE.trans hE1) | (go_at_call 228; refine (hcP _ hE1).mono ?_; rintro e2 w2 ⟨n, rfl, hn, hE2⟩; have hE12 := hE1.trans hE2; have hE02 := hE.trans hE12; simp only [Bool.not_false] at hn))
          go_roundw
          case rel => exact ⟨k + 1, by omega, by omega, by go_num, by rw [Hn.out], hE02⟩
          case measure => (simp [intOf]; omega)
        · rw [hP] at hcP
          by_cases hq : cnt B < cnt Y
          · have Hn := Lib.hid (Hmo.out hP hq)
            clear hP
            go_wp2_with (first | (go_at_call 106; refine cO.mono ?_; rintro e1 w1 ⟨rfl, hE1⟩; have hE01 := hE.trans hE1) | (go_at_call 228; refine (hcP _ hE1).mono ?_; rintro e2 w2 ⟨n, rfl, hn, hE2⟩; have hE12 := hE1.trans hE2; have hE02 := hE.trans hE12; simp only [Bool.not_true] at hn) | (go_at_call 189; refine (hcR _ hE12).mono ?_; rintro e3 w3 ⟨rfl, hE3⟩; have hE03 := hE02.trans hE3) | (go_at_call 151; with_reducible refine Calls.mono (hbY _) ?_; rintro e' w' ⟨rfl, rfl⟩) | (go_at_call 151; with_reducible refine Calls.mono (hbB _) ?_; rintro e' w' ⟨rfl, rfl⟩))
            go_roundw
            case rel => exact ⟨k + 1, by omega, by omega, by go_num, by rw [Hn.out], hE03⟩
            case measure => (simp [intOf]; omega)
          · have Hn := Lib.hid (Hle.out hP hq)
            clear hP
            go_wp2_with (first | (go_at_call 106; refine cO.mono ?_; rintro e1 w1 ⟨rfl, hE1⟩; have hE01 := hE.trans hE1) | (go_at_call 228; refine (hcP _ hE1).mono ?_; rintro e2 w2 ⟨n, rfl, hn, hE2⟩; have hE12 := hE1.trans hE2; have hE02 := hE.trans hE12; simp only [Bool.not_true] at hn) | (go_at_call 189; refine (hcR _ hE12).mono ?_; rintro e3 w3 ⟨rfl, hE3⟩; have hE03 := hE02.trans hE3) | (go_at_call 151; with_reducible refine Calls.mono (hbY _) ?_; rintro e' w' ⟨rfl, rfl⟩) | (go_at_call 151; with_reducible refine Calls.mono (hbB _) ?_; rintro e' w' ⟨rfl, rfl⟩))
            go_roundw
            case rel => exact ⟨k + 1, by omega, by omega, by go_num, by rw [Hn.out], hE03⟩
            case measure => (simp [intOf]; omega)
      · have hkl : k = ord l := by omega
        have Hn := Lib.hid (show fsS P (ord l) (f + 1) b fr = fsK P (ord l) f b fr k by rw [He.out, hkl])
        clear hkl
        go_wp2_with (go_at_call 106; refine cO.mono ?_; rintro e1 w1 ⟨rfl, hE1⟩)
        go_ret
        exact ⟨ret_int (by rw [Hn.out]), hE0.trans (hE.trans hE1)⟩
theorem l21Free_any (v : Value) (l : List Int) (a : Nat) (w : World) (h : Ints w v l) (Hgr : Hid (isGrp l = true)) (ha : a < 2 ^ 24) :
    Calls Try.prog 226 #[.agg #[v], .int .i64 a] w fun e w' => e = .returned (.bool (decide (sumF l a a &&& a = 0))) ∧ Ext w w' := by
  obtain ⟨wb, hwb⟩ : ∃ wb, wb = w.alloc (.cells #[v] 31) := ⟨_, rfl⟩
  have hE0 := (Ext.refl w).alloc (.cells #[v] 31)
  have hb := box_cell w v 31
  rw [← hwb] at hE0 hb
  have hg : ∀ W, Ext wb W → Ints W v l := fun W hW => h.ext (hE0.trans hW)
  have hE := Ext.refl wb
  have Hsz : Hid (w.heap.size + 1 = wb.heap.size) := Lib.hid (by rw [hwb]; simp [go_sem])
  have Hwb := Lib.hid hwb
  clear hwb h
  have hbx := hb wb hE
  have hs := sumF_bd Hgr.out a a
  have ho : iand ((sumF l a a : Nat) : Int) (a : Int) = ((sumF l a a &&& a : Nat) : Int) := iand_nat (by omega) (by omega)
  have cS := l4Sum_any v l a a wb (hg _ hE) Hgr ha ha
  go_enter Try.func226, Try.ntmps226
  go_wp2_with fail
  rw [← Hwb.out]
  refine cS.mono ?_
  rintro e w1 ⟨rfl, hE1⟩
  go_wp2_with fail
  go_ret
  exact ⟨ret_bool (by rw [Bool.eq_iff_iff, beq_iff_eq, decide_eq_true_iff]; omega), hE0.trans hE1⟩
theorem IsSumFree_any (v : Value) (l : List Int) (a : Int) (w : World) (h : Ints w v l) :
    Calls Try.prog 196 #[.agg #[v], .int .i64 a] w fun e w' => e = .returned (.bool (isSetB l a && decide (sumF l a.toNat a.toNat &&& a.toNat = 0))) ∧ Ext w w' := by
  obtain ⟨wb, hwb⟩ : ∃ wb, wb = w.alloc (.cells #[v] 31) := ⟨_, rfl⟩
  have hE0 := (Ext.refl w).alloc (.cells #[v] 31)
  have hb := box_cell w v 31
  rw [← hwb] at hE0 hb
  have hg : ∀ W, Ext wb W → Ints W v l := fun W hW => h.ext (hE0.trans hW)
  have hE := Ext.refl wb
  have Hsz : Hid (w.heap.size + 1 = wb.heap.size) := Lib.hid (by rw [hwb]; simp [go_sem])
  have Hwb := Lib.hid hwb
  clear hwb h
  have hbx := hb wb hE
  have cI := IsSet_any v l a wb (hg _ hE)
  cases hs : isSetB l a
  · rw [hs] at cI
    go_enter Try.func196, Try.ntmps196
    go_wp2_with fail
    rw [← Hwb.out]
    refine cI.mono ?_
    rintro e w1 ⟨rfl, hE1⟩
    go_wp2_with fail
    go_ret
    exact ⟨rfl, hE0.trans hE1⟩
  · rw [hs] at cI
    obtain ⟨n, rfl, -, hn, hgr⟩ := isSetB_nat hs
    have hs24 := sumF_bd hgr n n
    have ho : iand ((sumF l n n : Nat) : Int) (n : Int) = ((sumF l n n &&& n : Nat) : Int) := iand_nat (by omega) (by omega)
    have cS := fun W (hW : Ext wb W) => sum_any v l n n W (hg _ hW) (Lib.hid hgr) hn hn
    have Hv : Hid ((true && decide (sumF l ((n : Nat) : Int).toNat ((n : Nat) : Int).toNat &&& ((n : Nat) : Int).toNat = 0)) = (((sumF l n n &&& n : Nat) : Int) == 0)) := Lib.hid (by
      rw [show ((n : Nat) : Int).toNat = n by omega, Bool.true_and, Bool.eq_iff_iff, beq_iff_eq, decide_eq_true_iff]; omega)
    clear hs hgr
    go_enter Try.func196, Try.ntmps196
    go_wp2_with fail
    rw [← Hwb.out]
    refine cI.mono ?_
    rintro e w1 ⟨rfl, hE1⟩
    have hb1 := hb w1 hE1
    go_wp2_with fail
    refine (cS _ hE1).mono ?_
    rintro e w2 ⟨rfl, hE2⟩
    go_wp2_with fail
    go_ret
    exact ⟨ret_bool Hv.out.symm, hE0.trans (hE1.trans hE2)⟩
end Go.Zz
