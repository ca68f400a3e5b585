/- Parts of sequences and their totals, the first part of a length, the shortest part, with the sum 0. -/
import Derived.Test.YtohdnnamjcfnnaaC46
import Derived.Test.YtohdnnamjcfnnaaC34
namespace Go.Zz
open Go.RowKit Go.Proofs
set_option maxHeartbeats 1000000
set_option maxRecDepth 20000

theorem part_int (u : Value) (xs : List Int) (m : Nat) (w : World) (hu : Ints w u xs) (hm : m < 2 ^ 24) (hl : xs.length ≤ 24) :
    Calls Try.prog 202 #[u, .int .i64 m] w fun e w' => ∃ p, e = .returned p ∧ Own 3 w w' p (partI xs m) ∧ Ext w w' := by
  have hO := own_made (TI := 3) (n := 0) (by omega) (Ext.refl w) [] rfl
  have hE := (Ext.refl w).alloc (.cells #[] 3)
  obtain ⟨ao, c, adr, rfl, hlen, hadr, hcell⟩ := hu.op
  have hix := ints_index (c := c) elI szI hadr
  clear hadr hu
  go_enter Try.func202, Try.ntmps202
  go_wp2_with fail
  go_loopw [5, 11] (fun p i wr => ∃ k : Nat, k ≤ xs.length ∧ i = .int .i64 k ∧ Own 3 w wr p (partTo xs m k) ∧ Ext w wr) (fun _ i _ => xs.length - (intOf i).toNat)
  case atStart => exact ⟨0, by omega, rfl, by have e : partTo xs m 0 = [] := rfl; rw [e]; exact hO, hE⟩
  case round =>
    clear hE hO
    obtain ⟨k, hk, rfl, hO, hE⟩ := hrel
    by_cases hlt : k < xs.length
    · have hck := hcell k _ hlt hE
      have hpl := partTo_len xs m k
      have hsh := ishr_nat (a := m) (n := k) (by omega)
      have hbt := bit_test' (a := m) (n := k) (by omega) (by omega)
      cases hb : m.testBit k
      · rw [hb] at hbt
        have Hn := Lib.hid (partTo_no (xs := xs) hb)
        go_wp2_with (first | (go_at_call 99; refine (in_val m k hm (by omega) _ hb).mono ?_; rintro e w' ⟨rfl, rfl⟩))
        go_roundw
        case rel => exact ⟨k + 1, by omega, by go_num, by rw [Hn.out]; exact hO, hE⟩
        case measure => (simp [intOf]; omega)
      · rw [hb] at hbt
        have Hn := Lib.hid (partTo_yes (xs := xs) hb)
        go_wp2_with (first | (go_at_call 99; refine (in_val m k hm (by omega) _ hb).mono ?_; rintro e w' ⟨rfl, rfl⟩) | (at_builtin; refine wp_append1 slI rfl _ _ rfl w _ _ _ _ hO hE (by omega) rfl rfl ?_; intro v1 w1 hO1 hE1))
        go_roundw
        case rel => exact ⟨k + 1, by omega, by go_num, by rw [Hn.out]; exact hO1, hE1⟩
        case measure => (simp [intOf]; omega)
    · have hkl : k = xs.length := by omega
      subst hkl
      go_wp2_with fail
      go_ret
      exact ⟨_, rfl, hO, hE⟩
theorem part_any (u : Value) (X : List Nat) (m : Nat) (w : World) (hu : Ints w u (castL X)) (hm : m < 2 ^ 24) (hl : X.length ≤ 24) :
    Calls Try.prog 202 #[u, .int .i64 m] w fun e w' => ∃ p, e = .returned p ∧ Own 3 w w' p (castL (partL X m)) ∧ Ext w w' := by
  have := part_int u _ m w hu hm (by rw [castL_len]; exact hl)
  rwa [partI_cast] at this
theorem l16Part_int (u : Value) (xs : List Int) (m : Nat) (w : World) (hu : Ints w u xs) (hm : m < 2 ^ 24) (hl : xs.length ≤ 24) :
    Calls Try.prog 192 #[u, .int .i64 m] w fun e w' => ∃ p, e = .returned p ∧ Own 3 w w' p (partI xs m) ∧ Ext w w' := by
  have hO := own_made (TI := 3) (n := 0) (by omega) (Ext.refl w) [] rfl
  have hE := (Ext.refl w).alloc (.cells #[] 3)
  obtain ⟨ao, c, adr, rfl, hlen, hadr, hcell⟩ := hu.op
  have hix := ints_index (c := c) elI szI hadr
  clear hadr hu
  go_enter Try.func192, Try.ntmps192
  go_wp2_with fail
  go_loopw [5, 6] (fun p i wr => ∃ k : Nat, k ≤ xs.length ∧ i = .int .i64 k ∧ Own 3 w wr p (partTo xs m k) ∧ Ext w wr) (fun _ i _ => xs.length - (intOf i).toNat)
  case atStart => exact ⟨0, by omega, rfl, by have e : partTo xs m 0 = [] := rfl; rw [e]; exact hO, hE⟩
  case round =>
    clear hE hO
    obtain ⟨k, hk, rfl, hO, hE⟩ := hrel
    by_cases hlt : k < xs.length
    · have hck := hcell k _ hlt hE
      have hpl := partTo_len xs m k
      have hsh := ishr_nat (a := m) (n := k) (by omega)
      have hbt := bit_test' (a := m) (n := k) (by omega) (by omega)
      cases hb : m.testBit k
      · rw [hb] at hbt
        have Hn := Lib.hid (partTo_no (xs := xs) hb)
        go_wp2_with (first | (fail))
        go_roundw
        case rel => exact ⟨k + 1, by omega, by go_num, by rw [Hn.out]; exact hO, hE⟩
        case measure => (simp [intOf]; omega)
      · rw [hb] at hbt
        have Hn := Lib.hid (partTo_yes (xs := xs) hb)
        go_wp2_with (first | (fail) | (at_builtin; refine wp_append1 slI rfl _ _ rfl w _ _ _ _ hO hE (by omega) rfl rfl ?_; intro v1 w1 hO1 hE1))
        go_roundw
        case rel => exact ⟨k + 1, by omega, by go_num, by rw [Hn.out]; exact hO1, hE1⟩
        case measure => (simp [intOf]; omega)
    · have hkl : k = xs.length := by omega
      subst hkl
      go_wp2_with fail
      go_ret
      exact ⟨_, rfl, hO, hE⟩
theorem l16Part_any (u : Value) (X : List Nat) (m : Nat) (w : World) (hu : Ints w u (castL X)) (hm : m < 2 ^ 24) (hl : X.length ≤ 24) :
    Calls Try.prog 192 #[u, .int .i64 m] w fun e w' => ∃ p, e = .returned p ∧ Own 3 w w' p (castL (partL X m)) ∧ Ext w w' := by
  have := l16Part_int u _ m w hu hm (by rw [castL_len]; exact hl)
  rwa [partI_cast] at this
theorem total_any (v u : Value) (l : List Int) (X : List Nat) (w : World) (h : Ints w v l) (hu : Ints w u (castL X)) (Hgr : Hid (isGrp l = true)) (hX : Hid (∀ x ∈ X, x < 24)) :
    Calls Try.prog 234 #[.agg #[v], u] w fun e w' => e = .returned (.int .i64 (tot l X : Nat)) ∧ Ext w w' := by
  obtain ⟨wb, hwb⟩ : ∃ wb, wb = w.alloc (.cells #[v] 28) := ⟨_, rfl⟩
  have hE0 := (Ext.refl w).alloc (.cells #[v] 28)
  have hb := box_cell w v 28
  rw [← hwb] at hE0 hb
  have hg : ∀ W, Ext wb W → Ints W v l := fun W hW => h.ext (hE0.trans hW)
  have hE := Ext.refl wb
  have Hwb := Lib.hid hwb
  clear hwb h
  have hu' := hu.ext hE0
  have hlen : X.length ≤ 17592186044416 := by obtain ⟨_, _, _, _, h', _⟩ := hu; simpa [castL_len] using h'
  obtain ⟨ao, c, adr, rfl, hadr, hcell⟩ := hu'.nats
  have hix := ints_index (c := c) elI szI hadr
  clear hadr hu hu'
  go_enter Try.func234, Try.ntmps234
  go_wp2_with fail
  rw [← Hwb.out]
  go_loopw [5, 10] (fun s i wr => ∃ k : Nat, k ≤ X.length ∧ i = .int .i64 k ∧ s = .int .i64 (tot l (X.take k) : Nat) ∧ Ext wb wr) (fun _ i _ => X.length - (intOf i).toNat)
  case atStart => exact ⟨0, by omega, rfl, rfl, hE⟩
  case round =>
    clear hE
    obtain ⟨k, hk, rfl, rfl, hE⟩ := hrel
    by_cases hlt : k < X.length
    · have hx := hX.out _ (nthN_mem hlt)
      have ht := tot_bd Hgr.out (X.take k)
      have Ht := Lib.hid (tot_snoc l (X.take k) (nthN X k))
      have Ht2 := Lib.hid (take_nthN X k hlt)
      have hck := hcell k _ hlt hE
      have hbx := hb _ hE
      go_wp2_with (first | (go_at_call 217; refine (add_any _ _ _ _ _ (hg _ hE) (Hgr) ((by omega)) ((by omega))).mono ?_; rintro e w' ⟨rfl, hE'⟩; replace hE := hE.trans hE'; clear hE'))
      go_wp2_with fail
      go_roundw
      case rel => exact ⟨k + 1, by omega, by go_num, by rw [Ht2.out, Ht.out], hE⟩
      case measure => (simp [intOf]; omega)
    · have hkl : k = X.length := by omega
      subst hkl
      go_wp2_with fail
      go_ret
      exact ⟨ret_int (by rw [List.take_length]), hE0.trans hE⟩
theorem l16Sum_any (v u : Value) (l : List Int) (X : List Nat) (w : World) (h : Ints w v l) (hu : Ints w u (castL X)) (Hgr : Hid (isGrp l = true)) (hX : Hid (∀ x ∈ X, x < 24)) :
    Calls Try.prog 193 #[.agg #[v], u] w fun e w' => e = .returned (.int .i64 (tot l X : Nat)) ∧ Ext w w' := by
  obtain ⟨wb, hwb⟩ : ∃ wb, wb = w.alloc (.cells #[v] 28) := ⟨_, rfl⟩
  have hE0 := (Ext.refl w).alloc (.cells #[v] 28)
  have hb := box_cell w v 28
  rw [← hwb] at hE0 hb
  have hg : ∀ W, Ext wb W → Ints W v l := fun W hW => h.ext (hE0.trans hW)
  have hE := Ext.refl wb
  have Hwb := Lib.hid hwb
  clear hwb h
  have hu' := hu.ext hE0
  have hlen : X.length ≤ 17592186044416 := by obtain ⟨_, _, _, _, h', _⟩ := hu; simpa [castL_len] using h'
  obtain ⟨ao, c, adr, rfl, hadr, hcell⟩ := hu'.nats
  have hix := ints_index (c := c) elI szI hadr
  clear hadr hu hu'
  go_enter Try.func193, Try.ntmps193
  go_wp2_with fail
  rw [← Hwb.out]
  go_loopw [5, 6] (fun s i wr => ∃ k : Nat, k ≤ X.length ∧ i = .int .i64 k ∧ s = .int .i64 (tot l (X.take k) : Nat) ∧ Ext wb wr) (fun _ i _ => X.length - (intOf i).toNat)
  case atStart => exact ⟨0, by omega, rfl, rfl, hE⟩
  case round =>
    clear hE
    obtain ⟨k, hk, rfl, rfl, hE⟩ := hrel
    by_cases hlt : k < X.length
    · have hx := hX.out _ (nthN_mem hlt)
      have ht := tot_bd Hgr.out (X.take k)
      have Ht := Lib.hid (tot_snoc l (X.take k) (nthN X k))
      have Ht2 := Lib.hid (take_nthN X k hlt)
      have hck := fun U => hcell k _ hlt (hE.trans (lat_ext wr U))
      have hbx := fun U => hb _ (hE.trans (lat_ext wr U)); have hgr' : ∀ W, Ext wr W → Ints W v l := fun W hW => hg W (hE.trans hW); have hE1 := hE; clear hE; have hE := Ext.refl wr; go_wp2_with fail
      (refine wp_region_lat (wr) (by kernel_rfl) (by kernel_rfl) hE ?_); (repeat (go_big_quiet_step (first | (go_at_call 187; exact Calls.lat (l2Add_any _ _ _ _ _ (hgr' _ (lat_ext wr _)) Hgr (by omega) (by omega)))))); (refine wpQuiet_nil ?_); (intro W hE'); (replace hE := lat_of hE'); (clear hE'); replace hE := hE1.trans hE
      go_wp2_with fail
      go_roundw
      case rel => exact ⟨k + 1, by omega, by go_num, by rw [Ht2.out, Ht.out], hE⟩
      case measure => (simp [intOf]; omega)
    · have hkl : k = X.length := by omega
      subst hkl
      go_wp2_with fail
      go_ret
      exact ⟨ret_int (by rw [List.take_length]), hE0.trans hE⟩
theorem pw_len {n : Nat} (h : n ≤ 12) : pw n ≤ 4096 := Nat.pow_le_pow_right (n := 2) (by omega) h
theorem ZeroOfLength_seq (v u : Value) (l : List Int) (X : List Nat) (k : Nat) (w : World) (h : Ints w v l) (hu : Ints w u (castL X)) (hs : seqB l (castL X) = true) (hk1 : 1 ≤ k) (hk2 : k ≤ X.length) :
    Calls Try.prog 195 #[.agg #[v], u, .int .i64 k] w fun e w' => ∃ p, e = .returned (.tuple #[p, .bool (zolB l X k)]) ∧ Own 3 w w' p (castL (zolL l X k)) ∧ Ext w w' := by
  obtain ⟨wb, hwb⟩ : ∃ wb, wb = w.alloc (.cells #[v] 28) := ⟨_, rfl⟩
  have hE0 := (Ext.refl w).alloc (.cells #[v] 28)
  have hb := box_cell w v 28
  rw [← hwb] at hE0 hb
  have hg : ∀ W, Ext wb W → Ints W v l := fun W hW => h.ext (hE0.trans hW)
  have hE := Ext.refl wb
  have Hsz : Hid (w.heap.size + 1 = wb.heap.size) := Lib.hid (by rw [hwb]; simp [go_sem])
  have Hwb := Lib.hid hwb
  clear hwb h
  obtain ⟨X', e1, -, h12, hgr, hall⟩ := seqB_nat hs
  obtain rfl : X = X' := by
    have : ∀ (A B : List Nat), castL A = castL B → A = B := fun A B e => by
      have := congrArg (List.map Int.toNat) e
      simpa [castL, Function.comp_def] using this
    exact this _ _ e1
  have Hall := Lib.hid hall
  have Hgr := Lib.hid hgr
  have hp := pw_len h12
  have hs1 := ishl_one (n := X.length) (by omega)
  have Hgu : Hid (∀ W, Ext wb W → Ints W u (castL X)) := Lib.hid fun W hW => hu.ext (hE0.trans hW)
  obtain ⟨ao, c, adr, rfl, hadr, hcell⟩ := hu.nats
  have hin : inB (k : Int) 1 (X.length : Int) = true := inB_t.2 (by omega)
  have hbx := hb wb hE
  have Hat := Lib.hid (fun (m : Nat) a b c d => zol_at (l := l) (X := X) (k := k) (m := m) a b c d)
  have Hnone := Lib.hid (fun a => zol_none (l := l) (X := X) (k := k) a)
  clear hall hgr e1 hadr hcell hu
  go_enter Try.func195, Try.ntmps195
  go_wp2_with fail
  rw [← Hwb.out]
  go_wp2_with (first | (go_at_call 111; refine (IsSequence_val _ _ _ _ _ (hg _ hE) (Hgu.out _ hE) hs).mono ?_; rintro e w' ⟨rfl, hE'⟩; replace hE := hE.trans hE'; clear hE') | (go_at_call 188; refine (within_any _ _ _ _).mono ?_; rw [hin]; rintro e w' ⟨rfl, rfl⟩))
  clear hbx hs hin
  go_loopw [24] (fun i wr => ∃ m : Nat, m ≤ pw X.length ∧ i = .int .i64 m ∧ (∀ j, j < m → ¬ (cnt j = k ∧ tot l (partL X j) = 0)) ∧ Ext wb wr) (fun i _ => pw X.length - (intOf i).toNat)
  case atStart => exact ⟨0, by omega, rfl, by omega, hE⟩
  case round =>
    clear hE
    obtain ⟨m, hm, rfl, hno, hE⟩ := hrel
    have Hno := Lib.hid hno
    clear hno
    by_cases hlt : m < pw X.length
    · have hm24 : m < 2 ^ 24 := by omega
      have hcm := cnt_le m
      have hbw : ∀ W, Ext wr W → W.cell? ⟨w.heap.size, 0, none⟩ = some v := fun W hW => hb W (hE.trans hW)
      have hgw : ∀ W, Ext wr W → Ints W v l := fun W hW => hg W (hE.trans hW)
      have Hgw : Hid (∀ W, Ext wr W → Ints W (.slice ao X.length c) (castL X)) := Lib.hid fun W hW => Hgu.out W (hE.trans hW)
      have hE1 := hE
      clear hE
      have hE := Ext.refl wr
      by_cases hc : cnt m = k
      · have hq1 : ((cnt m : Int) == (k : Int)) = true := by rw [hc]; simp
        by_cases ht : tot l (partL X m) = 0
        · have Hz := Lib.hid (Hat.out m hlt Hno.out hc ht)
          have hq2 : ((tot l (partL X m) : Int) == 0) = true := by rw [ht]; simp
          have hbx := hbw wr hE
          clear hc ht
          go_wp2_with fail
          have hD := (Ext.refl (wr)).drew
          first | (go_region_held3 (fun W => Ext (wr) W ∧ W.cell? ⟨w.heap.size, 0, none⟩ = some v) (exact ⟨(by repeat (first | assumption | exact Ext.refl _ | (apply And.left; assumption) | apply Ext.drew | apply Ext.alloc)), hbw _ (by repeat (first | assumption | exact Ext.refl _ | (apply And.left; assumption) | apply Ext.drew | apply Ext.alloc))⟩) (first | (go_at_call 135; ((with_reducible refine Calls.mono (Calls.ext_of_same (bits_any _ hm24 _)) ?_); rintro e wH0 ⟨rfl, hX0⟩; have hH0 := Ext.trans (a := wr) (by repeat (first | assumption | exact Ext.refl _ | (apply And.left; assumption) | apply Ext.drew | apply Ext.alloc)) hX0)) | (go_at_call 202; ((with_reducible refine Calls.mono (part_any _ _ _ _ (Hgw.out _ (by repeat (first | assumption | exact Ext.refl _ | (apply And.left; assumption) | apply Ext.drew | apply Ext.alloc))) hm24 (by omega)) ?_); rintro e wH1 ⟨vP, rfl, hOP, hX1⟩; have hH1 := Ext.trans (a := wr) (by repeat (first | assumption | exact Ext.refl _ | (apply And.left; assumption) | apply Ext.drew | apply Ext.alloc)) hX1)) | (go_at_call 234; ((with_reducible refine Calls.mono (total_any _ _ _ _ _ (hgw _ (by repeat (first | assumption | exact Ext.refl _ | (apply And.left; assumption) | apply Ext.drew | apply Ext.alloc))) hOP.ints Hgr (Lib.hid fun x hx => Hall.out x (partL_mem hx))) ?_); rintro e wH2 ⟨rfl, hX2⟩; have hH2 := Ext.trans (a := wr) (by repeat (first | assumption | exact Ext.refl _ | (apply And.left; assumption) | apply Ext.drew | apply Ext.alloc)) hX2)))) | (fail "the region with calls")
          have hE3 : Ext wr wH2 := by repeat (first | assumption | exact Ext.refl _ | (apply And.left; assumption) | apply Ext.drew | apply Ext.alloc)
          go_wp2_with fail
          refine (part_any _ _ _ _ (Hgw.out _ hE3) hm24 (by omega)).mono ?_
          rintro e w5 ⟨p5, rfl, hO5, hE5⟩
          go_wp2_with fail
          exact bodyPost_ret (v := .tuple #[p5, .bool true]) (by simp [results, Try.results195, go_sem]) rfl ⟨_, by rw [Hz.out.2.1], by rw [Hz.out.1]; exact hO5.mono (hE0.trans (hE1.trans hE3)), hE0.trans (hE1.trans (hE3.trans hE5))⟩
        · have Hq := Lib.hid (fun e : cnt m = k ∧ tot l (partL X m) = 0 => ht e.2)
          have hq2 : ((tot l (partL X m) : Int) == 0) = false := by simp; omega
          have hbx := hbw wr hE
          clear hc ht
          go_wp2_with fail
          have hD := (Ext.refl (wr)).drew
          first | (go_region_held3 (fun W => Ext (wr) W ∧ W.cell? ⟨w.heap.size, 0, none⟩ = some v) (exact ⟨(by repeat (first | assumption | exact Ext.refl _ | (apply And.left; assumption) | apply Ext.drew | apply Ext.alloc)), hbw _ (by repeat (first | assumption | exact Ext.refl _ | (apply And.left; assumption) | apply Ext.drew | apply Ext.alloc))⟩) (first | (go_at_call 135; ((with_reducible refine Calls.mono (Calls.ext_of_same (bits_any _ hm24 _)) ?_); rintro e wH0 ⟨rfl, hX0⟩; have hH0 := Ext.trans (a := wr) (by repeat (first | assumption | exact Ext.refl _ | (apply And.left; assumption) | apply Ext.drew | apply Ext.alloc)) hX0)) | (go_at_call 202; ((with_reducible refine Calls.mono (part_any _ _ _ _ (Hgw.out _ (by repeat (first | assumption | exact Ext.refl _ | (apply And.left; assumption) | apply Ext.drew | apply Ext.alloc))) hm24 (by omega)) ?_); rintro e wH1 ⟨vP, rfl, hOP, hX1⟩; have hH1 := Ext.trans (a := wr) (by repeat (first | assumption | exact Ext.refl _ | (apply And.left; assumption) | apply Ext.drew | apply Ext.alloc)) hX1)) | (go_at_call 234; ((with_reducible refine Calls.mono (total_any _ _ _ _ _ (hgw _ (by repeat (first | assumption | exact Ext.refl _ | (apply And.left; assumption) | apply Ext.drew | apply Ext.alloc))) hOP.ints Hgr (Lib.hid fun x hx => Hall.out x (partL_mem hx))) ?_); rintro e wH2 ⟨rfl, hX2⟩; have hH2 := Ext.trans (a := wr) (by repeat (first | assumption | exact Ext.refl _ | (apply And.left; assumption) | apply Ext.drew | apply Ext.alloc)) hX2)))) | (fail "the region with calls")
          have hE3 : Ext wr wH2 := by repeat (first | assumption | exact Ext.refl _ | (apply And.left; assumption) | apply Ext.drew | apply Ext.alloc)
          go_wp2_with fail
          go_roundw
          case rel => exact ⟨m + 1, by omega, by go_num, fun j hj => by by_cases e : j = m; (subst e; exact Hq.out); exact Hno.out j (by omega), hE1.trans hE3⟩
          case measure => (simp [intOf]; omega)
      · have Hq := Lib.hid (fun e : cnt m = k ∧ tot l (partL X m) = 0 => hc e.1)
        have hq1 : ((cnt m : Int) == (k : Int)) = false := by simp; omega
        have hbu := fun U => hbw _ (lat_ext wr U)
        clear hc
        go_wp2_with fail
        (refine wp_region_lat (wr) (by kernel_rfl) (by kernel_rfl) hE ?_); (repeat (go_big_quiet_step (first | (go_at_call 135; exact Calls.lat_same (bits_any _ (hm24) _))))); (refine wpQuiet_nil ?_); (intro W hE'); (replace hE := lat_of hE'); (clear hE')
        go_wp2_with fail
        go_roundw
        case rel => exact ⟨m + 1, by omega, by go_num, fun j hj => by by_cases e : j = m; (subst e; exact Hq.out); exact Hno.out j (by omega), hE1.trans hE⟩
        case measure => (simp [intOf]; omega)
    · have hml : m = pw X.length := by omega
      subst hml
      have Hz := Lib.hid (Hnone.out Hno.out)
      have hO : Own 3 wr (wr.alloc (.cells #[] 3)) (.slice (some ⟨wr.heap.size, 0, none⟩) 0 0) (castL []) := own_made (TI := 3) (n := 0) (by omega) (Ext.refl wr) [] rfl
      go_wp2_with fail
      exact bodyPost_ret (v := .tuple #[.slice (some ⟨wr.heap.size, 0, none⟩) 0 0, .bool false]) (by simp [results, Try.results195, go_sem]) rfl ⟨_, by rw [Hz.out.2.1], by rw [Hz.out.1]; exact hO.mono (hE0.trans hE), hE0.trans (hE.alloc _)⟩
end Go.Zz
