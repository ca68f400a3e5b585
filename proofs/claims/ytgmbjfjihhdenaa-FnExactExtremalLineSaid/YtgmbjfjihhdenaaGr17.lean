/- Triples in progression: the reference. Largest sets of the references. -/
import Derived.Test.YtgmbjfjihhdenaaGr14
import Derived.Test.YtgmbjfjihhdenaaGr16
import Derived.Test.YtgmbjfjihhdenaaGr3
import Derived.Test.YtgmbjfjihhdenaaGr9
import Derived.Test.YtgmbjfjihhdenaaGr12
namespace Go.Zz
open Go.RowKit Go.Proofs
set_option maxHeartbeats 2000000
set_option maxRecDepth 4000

theorem sTriplesIn_any (v : Value) (l : List Int) (a : Int) (w : World) (h : Ints w v l) :
    Calls Try.prog 228 #[.agg #[v], .int .i64 a] w fun e w' => ZN (apB l a) e ∧ Ext w w' := by
  obtain ⟨wb, hwb⟩ : ∃ wb, wb = w.alloc (.cells #[v] 31) := ⟨_, rfl⟩
  have hE0 := (Ext.refl w).alloc (.cells #[v] 31)
  have hb := box_cell w v 31
  rw [← hwb] at hE0 hb
  have hg : ∀ W, Ext wb W → Ints W v l := fun W hW => h.ext (hE0.trans hW)
  have hE := Ext.refl wb
  have Hsz : Hid (w.heap.size + 1 = wb.heap.size) := Lib.hid (by rw [hwb]; simp [go_sem])
  have Hwb := Lib.hid hwb
  clear hwb h
  have hbx := hb wb hE
  cases hs : isSetB l a
  · have Hs := Lib.hid (apB_no hs)
    go_enter Try.func228, Try.ntmps228
    go_wp2_with fail
    rw [← Hwb.out]
    go_wp2_with (first | (go_at_call 141; refine (sIsSet_val _ _ _ _ (hg _ hE) (hs)).mono ?_; rintro e w' ⟨rfl, hE'⟩; replace hE := hE.trans hE'; clear hE'))
    go_ret
    exact ⟨by rw [Hs.out]; exact ZN.mk (by decide), hE0.trans hE⟩
  · obtain ⟨n, rfl, h1, h2, hgr⟩ := isSetB_nat hs
    have Hs := Lib.hid (apB_yes hs)
    have Hgr := Lib.hid hgr
    clear hgr
    go_enter Try.func228, Try.ntmps228
    go_wp2_with fail
    rw [← Hwb.out]
    go_wp2_with (first | (go_at_call 141; refine (sIsSet_val _ _ _ _ (hg _ hE) (hs)).mono ?_; rintro e w' ⟨rfl, hE'⟩; replace hE := hE.trans hE'; clear hE') | (go_at_call 170; refine (l3List_any n h2 _).mono ?_; rintro e w1 ⟨v1, rfl, hL, hE1⟩; obtain ⟨aoL, cL, adrL, rfl, hcap, hadrL, hcellL⟩ := hL.ints.natc; have hixL := ints_index (c := cL) elI szI hadrL))
    have hb1 : ∀ W, Ext w1 W → W.cell? ⟨w.heap.size, 0, none⟩ = some v := fun W hW => hb W (hE.trans (hE1.trans hW))
    have hg1 : ∀ W, Ext w1 W → Ints W v l := fun W hW => hg W (hE.trans (hE1.trans hW))
    have eW := hE0.trans (hE.trans hE1)
    have hall : ∀ y ∈ elems n, y < 24 := fun y hy => elems_lt hy
    have hlen := elems_len n
    clear hb hg hbx hE hE1 hL hs
    generalize elems n = L at hcellL hixL hall hlen Hs hcap hadrL ⊢
    have HcL := Lib.hid hcellL
    clear hadrL hcellL
    have hE := Ext.refl w1
    go_loopw [6, 7] (fun nv iv wr => ∃ i z : Nat, i ≤ L.length ∧ iv = .int .i64 i ∧ nv = .int .i64 z ∧ z ≤ 576 * i ∧ Hid (ZT l L (fun a b c => a < b ∧ b < i ∧ c < L.length) z) ∧ Ext w1 wr) (fun _ iv _ => L.length - (intOf iv).toNat)
    case atStart => exact ⟨0, 0, by omega, rfl, rfl, by omega, Lib.hid ⟨fun _ a b c hc => by omega, fun _ => rfl⟩, hE⟩
    case round =>
      clear hE
      obtain ⟨i, z, hi, rfl, rfl, hz, HZ, hE⟩ := hrel
      by_cases hlt : i < L.length
      · have hix24 := hall _ (nthN_mem hlt)
        go_wp2_with fail
        go_loopw [6, 8] (fun nv kv wr => ∃ t z : Nat, t ≤ i ∧ kv = .int .i64 t ∧ nv = .int .i64 z ∧ z ≤ 576 * i + 24 * t ∧ Hid (ZT l L (fun a b c => (a < b ∧ b < i ∧ c < L.length) ∨ (b = i ∧ a < t ∧ c < L.length)) z) ∧ Ext w1 wr) (fun _ kv _ => i - (intOf kv).toNat)
        case atStart => exact ⟨0, z, by omega, rfl, rfl, by omega, Lib.hid (HZ.out.congr fun a b c => by omega), hE⟩
        case round =>
          clear hE hz HZ
          obtain ⟨t, z, ht, rfl, rfl, hz, HZ, hE⟩ := hrel
          by_cases hlt2 : t < i
          · have hkt : t < L.length := by omega
            have hy24 := hall _ (nthN_mem hkt)
            go_wp2_with fail
            go_loopw [6, 9] (fun nv jv wr => ∃ j z : Nat, j ≤ L.length ∧ jv = .int .i64 j ∧ nv = .int .i64 z ∧ z ≤ 576 * i + 24 * t + j ∧ Hid (ZT l L (fun a b c => (a < b ∧ b < i ∧ c < L.length) ∨ (b = i ∧ a < t ∧ c < L.length) ∨ (b = i ∧ a = t ∧ c < j)) z) ∧ Ext w1 wr) (fun _ jv _ => L.length - (intOf jv).toNat)
            case atStart => exact ⟨0, z, by omega, rfl, rfl, by omega, Lib.hid (HZ.out.congr fun a b c => by omega), hE⟩
            case round =>
              clear hE hz HZ
              obtain ⟨j, z, hj, rfl, rfl, hz, HZ, hE⟩ := hrel
              by_cases hlt3 : j < L.length
              · have hz24 := hall _ (nthN_mem hlt3)
                rename World => wj
                have hcj := fun U => HcL.out j _ hlt3 (hE.trans (lat_ext wj U))
                have hci := fun U => HcL.out i _ hlt (hE.trans (lat_ext wj U))
                have hck := fun U => HcL.out t _ hkt (hE.trans (lat_ext wj U))
                have hbj := fun U => hb1 _ (hE.trans (lat_ext wj U))
                obtain ⟨X, hX⟩ : ∃ X, X = nthN L i := ⟨_, rfl⟩
                obtain ⟨Y, hY⟩ : ∃ X, X = nthN L t := ⟨_, rfl⟩
                obtain ⟨Z, hZ⟩ : ∃ X, X = nthN L j := ⟨_, rfl⟩
                have hx24 : X < 24 := by rw [hX]; exact hix24
                have hyy24 : Y < 24 := by rw [hY]; exact hy24
                have hzz24 : Z < 24 := by rw [hZ]; exact hz24
                rw [← hX] at hci
                rw [← hY] at hck
                rw [← hZ] at hcj
                have cA := fun U => l2Add_any v l X Y (Lat wj U) (hg1 _ (hE.trans (lat_ext wj U))) Hgr (by omega) (by omega)
                have cB := fun U => l2Add_any v l Z Z (Lat wj U) (hg1 _ (hE.trans (lat_ext wj U))) Hgr (by omega) (by omega)
                have Hap : Hid (apT l L t i j = (((addF l Z Z : Nat) : Int) == ((addF l X Y : Nat) : Int))) := Lib.hid (by
                  unfold apT; rw [← hX, ← hY, ← hZ, addF_comm l Y X, Bool.eq_iff_iff, beq_iff_eq, beq_iff_eq]; exact eq_comm)
                have hEj := hE
                clear hE hX hY hZ
                have hE := Ext.refl wj
                cases hq : (((addF l Z Z : Nat) : Int) == ((addF l X Y : Nat) : Int))
                · have Hap2 : Hid (apT l L t i j = false) := Lib.hid (by rw [Hap.out]; exact hq)
                  go_wp2_with fail
                  (refine wp_region_lat (wj) (by kernel_rfl) (by kernel_rfl) hE ?_); (repeat (go_big_quiet_step (first | (go_at_call 162; first | with_reducible exact Calls.lat (cA _) | with_reducible exact Calls.lat (cB _))))); (refine wpQuiet_nil ?_); (intro W hE'); (replace hE := lat_of hE'); (clear hE')
                  go_wp2_with fail
                  go_roundw
                  case rel => exact ⟨j + 1, z, by omega, by go_num, rfl, by omega, Lib.hid (HZ.out.miss Hap2.out fun a b c => by omega), hEj.trans hE⟩
                  case measure => (simp [intOf]; omega)
                · have Hap2 : Hid (apT l L t i j = true) := Lib.hid (by rw [Hap.out]; exact hq)
                  go_wp2_with fail
                  (refine wp_region_lat (wj) (by kernel_rfl) (by kernel_rfl) hE ?_); (repeat (go_big_quiet_step (first | (go_at_call 162; first | with_reducible exact Calls.lat (cA _) | with_reducible exact Calls.lat (cB _))))); (refine wpQuiet_nil ?_); (intro W hE'); (replace hE := lat_of hE'); (clear hE')
                  go_wp2_with fail
                  go_roundw
                  case rel => exact ⟨j + 1, z + 1, by omega, by go_num, by go_num, by omega, Lib.hid (ZT.hit (C := fun _ _ _ => True) Hap2.out (by omega)), hEj.trans hE⟩
                  case measure => (simp [intOf]; omega)
              · have Hn : Hid (ZT l L (fun a b c => (a < b ∧ b < i ∧ c < L.length) ∨ (b = i ∧ a < t + 1 ∧ c < L.length)) z) := Lib.hid (HZ.out.congr fun a b c => by omega)
                have hz2 : z ≤ 576 * i + 24 * (t + 1) := by omega
                go_wp2_with fail
                go_roundw
                case rel => exact ⟨t + 1, z, by omega, by go_num, rfl, hz2, Hn, hE⟩
                case measure => (simp [intOf]; omega)
          · have Hn : Hid (ZT l L (fun a b c => a < b ∧ b < i + 1 ∧ c < L.length) z) := Lib.hid (HZ.out.congr fun a b c => by omega)
            have hz2 : z ≤ 576 * (i + 1) := by omega
            go_wp2_with fail
            go_roundw
            case rel => exact ⟨i + 1, z, by omega, by go_num, rfl, hz2, Hn, hE⟩
            case measure => (simp [intOf]; omega)
      · have hil : i = L.length := by omega
        have Hz : Hid (((z : Int) == 0) = apL l L) := Lib.hid (ZT.all (HZ.out.congr fun a b c => by omega))
        clear hil
        go_wp2_with fail
        go_ret
        exact ⟨by rw [Hs.out]; exact ZN.mk Hz.out, eW.trans hE⟩
noncomputable def apP (l : List Int) (b : Nat) : Bool := apB l b
theorem firstAp_any (v : Value) (l : List Int) (P : Nat → Bool) (Hgr : Hid (isGrp l = true)) (W0 : World) (bC bS bB bG bI bT : Nat) (hCS : bC ≠ bS) (hCB : bC ≠ bB) (hSB : bS ≠ bB) (hTC : bT ≠ bC) (hTS : bT ≠ bS) (hTB : bT ≠ bB) (h0C : W0.heap.size ≤ bC) (h0S : W0.heap.size ≤ bS) (h0B : W0.heap.size ≤ bB)
    (p1 p2 : Value) (HG : ∀ W, Ext W0 W → W.cell? ⟨bG, 0, none⟩ = some v) (HF : ∀ W, Ext W0 W → W.cell? ⟨bI, 0, none⟩ = some (.func (.func 199) #[] #[p1])) (HI : Hid (∀ W, Ext W0 W → Ints W v l))
    (HP : ∀ W b, Ext W0 W → b < 2 ^ 24 → Calls Try.prog 199 #[.int .i64 (b : Nat), p1] W fun e w' => e = .returned (.bool (P b)) ∧ Ext W w') :
    ∀ (f b n fr : Nat) (w : World) (s : Nat × Int) (c : Int), ord l < fr + f → fr ≤ ord l → b < 2 ^ 24 → n ≤ fr → -1 ≤ s.2 → s.2 ≤ 24 → Ext W0 w → Blk w bB 3 #[.int .i64 s.1] → Blk w bS 3 #[.int .i64 s.2] → Blk w bC 3 #[.int .i64 c] →
    Blk w bT 125 #[.func (.func 218) #[] #[.pointer (some ⟨bC, 0, none⟩), .pointer (some ⟨bS, 0, none⟩), .pointer (some ⟨bB, 0, none⟩), .pointer (some ⟨bG, 0, none⟩), .pointer (some ⟨bI, 0, none⟩), .pointer (some ⟨bT, 0, none⟩)]] →
    Calls Try.prog 218 #[.int .i64 b, .int .i64 n, .int .i64 fr, .pointer (some ⟨bC, 0, none⟩), .pointer (some ⟨bS, 0, none⟩), .pointer (some ⟨bB, 0, none⟩), .pointer (some ⟨bG, 0, none⟩), .pointer (some ⟨bI, 0, none⟩), .pointer (some ⟨bT, 0, none⟩)] w fun e w' =>
      e = .returned (.tuple #[]) ∧ ∃ c', Blk w' bB 3 #[.int .i64 (fsI P (ord l) f b n fr s).1] ∧ Blk w' bS 3 #[.int .i64 (fsI P (ord l) f b n fr s).2] ∧ Blk w' bC 3 #[.int .i64 c'] ∧ Fw (S3 bC bS bB) w w' ∧ -1 ≤ (fsI P (ord l) f b n fr s).2 ∧ (fsI P (ord l) f b n fr s).2 ≤ 24 := by
  intro f
  induction f with
  | zero => intro b n fr w s c hf hfr; omega
  | succ f ih =>
    intro b n fr w s c hf hfr hb24 hn hs1 hs2 hE0 hB hS hC hT
    have hob := ord_bd Hgr.out
    have Hih := Lib.hid ih
    clear ih
    obtain ⟨c1, hc1⟩ : ∃ c1, c1 = wrap64 (c + 1) := ⟨_, rfl⟩
    have kc := hC.cell (i := 0) (v := .int .i64 c) rfl
    have fc := hC.free 0
    have B1 : Blk (w.setCell ⟨bC, 0, none⟩ (.int .i64 (wrap64 (c + 1)))) bB 3 #[.int .i64 s.1] := hB.other (by simpa using hCB.symm) _
    have S1 : Blk (w.setCell ⟨bC, 0, none⟩ (.int .i64 (wrap64 (c + 1)))) bS 3 #[.int .i64 s.2] := hS.other (by simpa using hCS.symm) _
    have C1 : Blk (w.setCell ⟨bC, 0, none⟩ (.int .i64 (wrap64 (c + 1)))) bC 3 #[.int .i64 (wrap64 (c + 1))] := hC.set 0 _
    have F1 : Fw (S3 bC bS bB) w (w.setCell ⟨bC, 0, none⟩ (.int .i64 (wrap64 (c + 1)))) := fw_set (Or.inl rfl) w 0 _
    have ks1 := S1.cell (i := 0) (v := .int .i64 s.2) rfl
    have kb1 := B1.cell (i := 0) (v := .int .i64 s.1) rfl
    have fb1 := B1.free 0
    have hS3 : ∀ k, S3 bC bS bB k → W0.heap.size ≤ k := by rintro k (rfl | rfl | rfl) <;> assumption
    have hT3 : ¬ S3 bC bS bB bT := by rintro (h | h | h) <;> contradiction
    by_cases hq : s.2 < (n : Int)
    · have B2 : Blk ((w.setCell ⟨bC, 0, none⟩ (.int .i64 (wrap64 (c + 1)))).setCell ⟨bB, 0, none⟩ (.int .i64 b)) bB 3 #[.int .i64 b] := B1.set 0 _
      have S2 : Blk ((w.setCell ⟨bC, 0, none⟩ (.int .i64 (wrap64 (c + 1)))).setCell ⟨bB, 0, none⟩ (.int .i64 b)) bS 3 #[.int .i64 s.2] := S1.other (by simpa using hSB) _
      have C2 : Blk ((w.setCell ⟨bC, 0, none⟩ (.int .i64 (wrap64 (c + 1)))).setCell ⟨bB, 0, none⟩ (.int .i64 b)) bC 3 #[.int .i64 (wrap64 (c + 1))] := C1.other (by simpa using hCB) _
      have ks2 := S2.cell (i := 0) (v := .int .i64 s.2) rfl
      have fs2 := S2.free 0
      have s0 := fsIto_start (P := P) (N := ord l) (f := f) (b := b) (n := n) (fr := fr) (s := s)
      rw [if_pos hq] at s0
      have HB0 : Hid (Blk (((w.setCell ⟨bC, 0, none⟩ (.int .i64 (wrap64 (c + 1)))).setCell ⟨bB, 0, none⟩ (.int .i64 b)).setCell ⟨bS, 0, none⟩ (.int .i64 n)) bB 3 #[.int .i64 (fsIto P (ord l) f b n fr s fr).1]) := Lib.hid (by rw [s0]; exact B2.other (by simpa using hSB.symm) _)
      have HS0 : Hid (Blk (((w.setCell ⟨bC, 0, none⟩ (.int .i64 (wrap64 (c + 1)))).setCell ⟨bB, 0, none⟩ (.int .i64 b)).setCell ⟨bS, 0, none⟩ (.int .i64 n)) bS 3 #[.int .i64 (fsIto P (ord l) f b n fr s fr).2]) := Lib.hid (by rw [s0]; exact S2.set 0 _)
      have HC0 : Hid (Blk (((w.setCell ⟨bC, 0, none⟩ (.int .i64 (wrap64 (c + 1)))).setCell ⟨bB, 0, none⟩ (.int .i64 b)).setCell ⟨bS, 0, none⟩ (.int .i64 n)) bC 3 #[.int .i64 (wrap64 (c + 1))]) := Lib.hid (C2.other (by simpa using hCS) _)
      have HF0 : Hid (Fw (S3 bC bS bB) w (((w.setCell ⟨bC, 0, none⟩ (.int .i64 (wrap64 (c + 1)))).setCell ⟨bB, 0, none⟩ (.int .i64 b)).setCell ⟨bS, 0, none⟩ (.int .i64 n))) := Lib.hid ((F1.trans (fw_set (Or.inr (Or.inr rfl)) _ 0 _)).trans (fw_set (Or.inr (Or.inl rfl)) _ 0 _))
      have Hb0 : Hid (-1 ≤ (fsIto P (ord l) f b n fr s fr).2 ∧ (fsIto P (ord l) f b n fr s fr).2 ≤ 24) := Lib.hid (by rw [s0]; simp only; omega)
      clear s0 B1 S1 C1 F1 B2 S2 C2 hB hS hC hc1
      go_enter Try.func218, Try.ntmps218
      go_wp2_with fail
      clear kc fc ks1 kb1 fb1 ks2 fs2 hq
      go_loopw [12] (fun xv wr => ∃ (k : Nat) (c' : Int), fr ≤ k ∧ k ≤ ord l ∧ xv = .int .i64 k ∧ Blk wr bB 3 #[.int .i64 (fsIto P (ord l) f b n fr s k).1] ∧ Blk wr bS 3 #[.int .i64 (fsIto P (ord l) f b n fr s k).2] ∧ Blk wr bC 3 #[.int .i64 c'] ∧ Fw (S3 bC bS bB) w wr ∧ -1 ≤ (fsIto P (ord l) f b n fr s k).2 ∧ (fsIto P (ord l) f b n fr s k).2 ≤ 24) (fun x _ => ord l - (intOf x).toNat)
      case atStart => exact ⟨fr, _, by omega, by omega, rfl, HB0.out, HS0.out, HC0.out, HF0.out, Hb0.out.1, Hb0.out.2⟩
      case round =>
        obtain ⟨k, c', hk1, hk2, rfl, hB, hS, hC, hF, hb1, hb2⟩ := hrel
        clear HB0 HS0 HC0 HF0 Hb0
        have hEr := hF.ext hE0 hS3
        have hTr := hF.blk hT hT3
        obtain ⟨z, hz⟩ : ∃ z, z = fsIto P (ord l) f b n fr s k := ⟨_, rfl⟩
        rw [← hz] at hB hS hb1 hb2
        have HB := Lib.hid hB
        have HS := Lib.hid hS
        have HC := Lib.hid hC
        have HFw := Lib.hid hF
        clear hB hS hC hF
        by_cases hlt : k < ord l
        · have hk24 : k < 24 := by omega
          have hs1' := ishl_one (n := k) (by omega)
          have hs2' := ior_pw hb24 hk24
          have hbk : b ||| 2 ^ k < 2 ^ 24 := Nat.or_lt_two_pow hb24 (Nat.pow_lt_pow_right (by omega) hk24)
          cases hP : P (b ||| 2 ^ k)
          · have Hn : Hid (fsIto P (ord l) f b n fr s (k + 1) = z) := Lib.hid (by rw [fsIto_no hP, hz])
            have hcP := fun W (hW : Ext wr W) => HP W (b ||| 2 ^ k) (hEr.trans hW) hbk
            rw [hP] at hcP
            clear hz hP
            go_wp2_with (first | (go_at_call 114; refine (OrderOf_grp _ _ _ (HI.out _ hEr) Hgr).mono ?_; rintro e1 w1 ⟨rfl, hE1⟩; have hE01 := hEr.trans hE1) | (go_at_call 199; refine (hcP _ hE1).mono ?_; rintro e2 w2 ⟨rfl, hE2⟩; have hE12 := hE1.trans hE2))
            go_roundw
            case rel => exact ⟨k + 1, c', by omega, by omega, by go_num, by rw [Hn.out]; exact HB.out.ext hE12, by rw [Hn.out]; exact HS.out.ext hE12, HC.out.ext hE12, HFw.out.trans (hE12.fw _), by rw [Hn.out]; exact hb1, by rw [Hn.out]; exact hb2⟩
            case measure => (simp [intOf]; omega)
          · have Hn : Hid (fsIto P (ord l) f b n fr s (k + 1) = fsI P (ord l) f (b ||| 2 ^ k) (n + 1) (k + 1) z) := Lib.hid (by rw [fsIto_yes hlt hk1 hP, hz])
            have hcP := fun W (hW : Ext wr W) => HP W (b ||| 2 ^ k) (hEr.trans hW) hbk
            rw [hP] at hcP
            have hcR := fun W (hE : Ext wr W) => Hih.out (b ||| 2 ^ k) (n + 1) (k + 1) W z c' (by omega) (by omega) hbk (by omega) hb1 hb2 (hEr.trans hE) (HB.out.ext hE) (HS.out.ext hE) (HC.out.ext hE) (hTr.ext hE)
            rw [show ((n + 1 : Nat) : Int) = (n : Int) + 1 by omega, show ((k + 1 : Nat) : Int) = (k : Int) + 1 by omega] at hcR
            have kt : ∀ W, Ext wr W → W.cell? ⟨bT, 0, none⟩ = some (.func (.func 218) #[] #[.pointer (some ⟨bC, 0, none⟩), .pointer (some ⟨bS, 0, none⟩), .pointer (some ⟨bB, 0, none⟩), .pointer (some ⟨bG, 0, none⟩), .pointer (some ⟨bI, 0, none⟩), .pointer (some ⟨bT, 0, none⟩)]) := fun W hW => (hTr.ext hW).cell (i := 0) rfl
            clear hz hP
            go_wp2_with (first | (go_at_call 114; refine (OrderOf_grp _ _ _ (HI.out _ hEr) Hgr).mono ?_; rintro e1 w1 ⟨rfl, hE1⟩; have hE01 := hEr.trans hE1) | (go_at_call 199; refine (hcP _ hE1).mono ?_; rintro e2 w2 ⟨rfl, hE2⟩; have hE12 := hE1.trans hE2) | (go_at_call 218; refine (hcR _ hE12).mono ?_; rintro e3 w3 ⟨rfl, c3, hB3, hS3', hC3, hF3, hb3, hb4⟩))
            go_roundw
            case rel => exact ⟨k + 1, c3, by omega, by omega, by go_num, by rw [Hn.out]; exact hB3, by rw [Hn.out]; exact hS3', hC3, HFw.out.trans ((hE12.fw _).trans hF3), by rw [Hn.out]; exact hb3, by rw [Hn.out]; exact hb4⟩
            case measure => (simp [intOf]; omega)
        · have hkl : k = ord l := by omega
          have Hn : Hid (fsI P (ord l) (f + 1) b n fr s = z) := Lib.hid (by rw [fsI_end hob.2, hz, hkl])
          clear hz
          go_wp2_with (go_at_call 114; refine (OrderOf_grp _ _ _ (HI.out _ hEr) Hgr).mono ?_; rintro e1 w1 ⟨rfl, hE1⟩; have hE01 := hEr.trans hE1)
          go_end0
          exact ⟨rfl, c', by rw [Hn.out]; exact HB.out.ext hE1, by rw [Hn.out]; exact HS.out.ext hE1, HC.out.ext hE1, HFw.out.trans (hE1.fw _), by rw [Hn.out]; exact hb1, by rw [Hn.out]; exact hb2⟩
    · have s0 := fsIto_start (P := P) (N := ord l) (f := f) (b := b) (n := n) (fr := fr) (s := s)
      rw [if_neg hq] at s0
      have HB0 : Hid (Blk (w.setCell ⟨bC, 0, none⟩ (.int .i64 (wrap64 (c + 1)))) bB 3 #[.int .i64 (fsIto P (ord l) f b n fr s fr).1]) := Lib.hid (by rw [s0]; exact B1)
      have HS0 : Hid (Blk (w.setCell ⟨bC, 0, none⟩ (.int .i64 (wrap64 (c + 1)))) bS 3 #[.int .i64 (fsIto P (ord l) f b n fr s fr).2]) := Lib.hid (by rw [s0]; exact S1)
      have HC0 := Lib.hid C1
      have HF0 := Lib.hid F1
      have Hb0 : Hid (-1 ≤ (fsIto P (ord l) f b n fr s fr).2 ∧ (fsIto P (ord l) f b n fr s fr).2 ≤ 24) := Lib.hid (by rw [s0]; exact ⟨hs1, hs2⟩)
      clear s0 B1 S1 C1 F1 hB hS hC hc1
      go_enter Try.func218, Try.ntmps218
      go_wp2_with fail
      clear kc fc ks1 kb1 fb1 hq
      go_loopw [12] (fun xv wr => ∃ (k : Nat) (c' : Int), fr ≤ k ∧ k ≤ ord l ∧ xv = .int .i64 k ∧ Blk wr bB 3 #[.int .i64 (fsIto P (ord l) f b n fr s k).1] ∧ Blk wr bS 3 #[.int .i64 (fsIto P (ord l) f b n fr s k).2] ∧ Blk wr bC 3 #[.int .i64 c'] ∧ Fw (S3 bC bS bB) w wr ∧ -1 ≤ (fsIto P (ord l) f b n fr s k).2 ∧ (fsIto P (ord l) f b n fr s k).2 ≤ 24) (fun x _ => ord l - (intOf x).toNat)
      case atStart => exact ⟨fr, _, by omega, by omega, rfl, HB0.out, HS0.out, HC0.out, HF0.out, Hb0.out.1, Hb0.out.2⟩
      case round =>
        obtain ⟨k, c', hk1, hk2, rfl, hB, hS, hC, hF, hb1, hb2⟩ := hrel
        clear HB0 HS0 HC0 HF0 Hb0
        have hEr := hF.ext hE0 hS3
        have hTr := hF.blk hT hT3
        obtain ⟨z, hz⟩ : ∃ z, z = fsIto P (ord l) f b n fr s k := ⟨_, rfl⟩
        rw [← hz] at hB hS hb1 hb2
        have HB := Lib.hid hB
        have HS := Lib.hid hS
        have HC := Lib.hid hC
        have HFw := Lib.hid hF
        clear hB hS hC hF
        by_cases hlt : k < ord l
        · have hk24 : k < 24 := by omega
          have hs1' := ishl_one (n := k) (by omega)
          have hs2' := ior_pw hb24 hk24
          have hbk : b ||| 2 ^ k < 2 ^ 24 := Nat.or_lt_two_pow hb24 (Nat.pow_lt_pow_right (by omega) hk24)
          cases hP : P (b ||| 2 ^ k)
          · have Hn : Hid (fsIto P (ord l) f b n fr s (k + 1) = z) := Lib.hid (by rw [fsIto_no hP, hz])
            have hcP := fun W (hW : Ext wr W) => HP W (b ||| 2 ^ k) (hEr.trans hW) hbk
            rw [hP] at hcP
            clear hz hP
            go_wp2_with (first | (go_at_call 114; refine (OrderOf_grp _ _ _ (HI.out _ hEr) Hgr).mono ?_; rintro e1 w1 ⟨rfl, hE1⟩; have hE01 := hEr.trans hE1) | (go_at_call 199; refine (hcP _ hE1).mono ?_; rintro e2 w2 ⟨rfl, hE2⟩; have hE12 := hE1.trans hE2))
            go_roundw
            case rel => exact ⟨k + 1, c', by omega, by omega, by go_num, by rw [Hn.out]; exact HB.out.ext hE12, by rw [Hn.out]; exact HS.out.ext hE12, HC.out.ext hE12, HFw.out.trans (hE12.fw _), by rw [Hn.out]; exact hb1, by rw [Hn.out]; exact hb2⟩
            case measure => (simp [intOf]; omega)
          · have Hn : Hid (fsIto P (ord l) f b n fr s (k + 1) = fsI P (ord l) f (b ||| 2 ^ k) (n + 1) (k + 1) z) := Lib.hid (by rw [fsIto_yes hlt hk1 hP, hz])
            have hcP := fun W (hW : Ext wr W) => HP W (b ||| 2 ^ k) (hEr.trans hW) hbk
            rw [hP] at hcP
            have hcR := fun W (hE : Ext wr W) => Hih.out (b ||| 2 ^ k) (n + 1) (k + 1) W z c' (by omega) (by omega) hbk (by omega) hb1 hb2 (hEr.trans hE) (HB.out.ext hE) (HS.out.ext hE) (HC.out.ext hE) (hTr.ext hE)
            rw [show ((n + 1 : Nat) : Int) = (n : Int) + 1 by omega, show ((k + 1 : Nat) : Int) = (k : Int) + 1 by omega] at hcR
            have kt : ∀ W, Ext wr W → W.cell? ⟨bT, 0, none⟩ = some (.func (.func 218) #[] #[.pointer (some ⟨bC, 0, none⟩), .pointer (some ⟨bS, 0, none⟩), .pointer (some ⟨bB, 0, none⟩), .pointer (some ⟨bG, 0, none⟩), .pointer (some ⟨bI, 0, none⟩), .pointer (some ⟨bT, 0, none⟩)]) := fun W hW => (hTr.ext hW).cell (i := 0) rfl
            clear hz hP
            go_wp2_with (first | (go_at_call 114; refine (OrderOf_grp _ _ _ (HI.out _ hEr) Hgr).mono ?_; rintro e1 w1 ⟨rfl, hE1⟩; have hE01 := hEr.trans hE1) | (go_at_call 199; refine (hcP _ hE1).mono ?_; rintro e2 w2 ⟨rfl, hE2⟩; have hE12 := hE1.trans hE2) | (go_at_call 218; refine (hcR _ hE12).mono ?_; rintro e3 w3 ⟨rfl, c3, hB3, hS3', hC3, hF3, hb3, hb4⟩))
            go_roundw
            case rel => exact ⟨k + 1, c3, by omega, by omega, by go_num, by rw [Hn.out]; exact hB3, by rw [Hn.out]; exact hS3', hC3, HFw.out.trans ((hE12.fw _).trans hF3), by rw [Hn.out]; exact hb3, by rw [Hn.out]; exact hb4⟩
            case measure => (simp [intOf]; omega)
        · have hkl : k = ord l := by omega
          have Hn : Hid (fsI P (ord l) (f + 1) b n fr s = z) := Lib.hid (by rw [fsI_end hob.2, hz, hkl])
          clear hz
          go_wp2_with (go_at_call 114; refine (OrderOf_grp _ _ _ (HI.out _ hEr) Hgr).mono ?_; rintro e1 w1 ⟨rfl, hE1⟩; have hE01 := hEr.trans hE1)
          go_end0
          exact ⟨rfl, c', by rw [Hn.out]; exact HB.out.ext hE1, by rw [Hn.out]; exact HS.out.ext hE1, HC.out.ext hE1, HFw.out.trans (hE1.fw _), by rw [Hn.out]; exact hb1, by rw [Hn.out]; exact hb2⟩
theorem firstAp_fn (v : Value) (l : List Int) (P : Nat → Bool) (Hgr : Hid (isGrp l = true)) (w : World) (h : Ints w v l) (p1 p2 : Value)
    (HP : ∀ W b, Ext w W → b < 2 ^ 24 → Calls Try.prog 199 #[.int .i64 (b : Nat), p1] W fun e w' => e = .returned (.bool (P b)) ∧ Ext W w') :
    Calls Try.prog 163 #[.agg #[v], .func (.func 199) #[] #[p1]] w fun e w' => ∃ c, e = .returned (.tuple #[.int .i64 (fsS P (ord l) (ord l + 1) 0 0 : Nat), .int .i64 c]) ∧ Ext w w' := by
  have hob := ord_bd Hgr.out
  have hmf : ∀ (fn : Fn) (first cap : Array Value) (w : World), (Instr.makeFunc fn first cap).run Try.prog w = .ok (.func fn first cap) w := fun _ _ _ _ => rfl
  have He := Lib.hid (fsI_eq P (ord l) hob.2 (ord l + 1) 0 0 (0, -1) (by simp) (by omega))
  have HH := Lib.hid h
  have HPP := Lib.hid HP
  clear h HP
  go_enter Try.func163, Try.ntmps163
  go_wp2_with fail
  obtain ⟨w1, h1⟩ : ∃ x, x = w.alloc (.cells #[v] 31) := ⟨_, rfl⟩
  obtain ⟨w2, h2⟩ : ∃ x, x = w1.alloc (.cells #[.func (.func 199) #[] #[p1]] 86) := ⟨_, rfl⟩
  obtain ⟨w3, h3⟩ : ∃ x, x = w2.alloc (.cells #[.int .i64 0] 3) := ⟨_, rfl⟩
  obtain ⟨w4, h4⟩ : ∃ x, x = w3.alloc (.cells #[.int .i64 (-1)] 3) := ⟨_, rfl⟩
  obtain ⟨w5, h5⟩ : ∃ x, x = w4.alloc (.cells #[.int .i64 0] 3) := ⟨_, rfl⟩
  obtain ⟨w6, h6⟩ : ∃ x, x = w5.alloc (.cells #[.func (.func 218) #[] #[.pointer (some ⟨w.heap.size + 1 + 1 + 1 + 1, 0, none⟩), .pointer (some ⟨w.heap.size + 1 + 1 + 1, 0, none⟩), .pointer (some ⟨w.heap.size + 1 + 1, 0, none⟩), .pointer (some ⟨w.heap.size, 0, none⟩), .pointer (some ⟨w.heap.size + 1, 0, none⟩), .pointer (some ⟨w.heap.size + 1 + 1 + 1 + 1 + 1, 0, none⟩)]] 125) := ⟨_, rfl⟩
  rw [← h1, ← h2, ← h3, ← h4, ← h5, ← h6]
  have s1 : w1.heap.size = w.heap.size + 1 := by rw [h1]; simp
  have s2 : w2.heap.size = w.heap.size + 1 + 1 := by rw [h2]; simp [s1]
  have s3 : w3.heap.size = w.heap.size + 1 + 1 + 1 := by rw [h3]; simp [s2]
  have s4 : w4.heap.size = w.heap.size + 1 + 1 + 1 + 1 := by rw [h4]; simp [s3]
  have s5 : w5.heap.size = w.heap.size + 1 + 1 + 1 + 1 + 1 := by rw [h5]; simp [s4]
  have e01 : Ext w w1 := by rw [h1]; exact (Ext.refl _).alloc _
  have e12 : Ext w1 w2 := by rw [h2]; exact (Ext.refl _).alloc _
  have e23 : Ext w2 w3 := by rw [h3]; exact (Ext.refl _).alloc _
  have e34 : Ext w3 w4 := by rw [h4]; exact (Ext.refl _).alloc _
  have e45 : Ext w4 w5 := by rw [h5]; exact (Ext.refl _).alloc _
  have e56 : Ext w5 w6 := by rw [h6]; exact (Ext.refl _).alloc _
  have B1 : Blk w1 w.heap.size 31 #[v] := by rw [h1]; exact Blk.new _ _ _
  have B2 : Blk w2 (w.heap.size + 1) 86 #[.func (.func 199) #[] #[p1]] := by rw [h2, ← s1]; exact Blk.new _ _ _
  have B3 : Blk w3 (w.heap.size + 1 + 1) 3 #[.int .i64 ((0 : Nat) : Int)] := by rw [h3, ← s2]; exact Blk.new _ _ _
  have B4 : Blk w4 (w.heap.size + 1 + 1 + 1) 3 #[.int .i64 (-1)] := by rw [h4, ← s3]; exact Blk.new _ _ _
  have B5 : Blk w5 (w.heap.size + 1 + 1 + 1 + 1) 3 #[.int .i64 0] := by rw [h5, ← s4]; exact Blk.new _ _ _
  have B6 : Blk w6 (w.heap.size + 1 + 1 + 1 + 1 + 1) 125 #[.func (.func 218) #[] #[.pointer (some ⟨w.heap.size + 1 + 1 + 1 + 1, 0, none⟩), .pointer (some ⟨w.heap.size + 1 + 1 + 1, 0, none⟩), .pointer (some ⟨w.heap.size + 1 + 1, 0, none⟩), .pointer (some ⟨w.heap.size, 0, none⟩), .pointer (some ⟨w.heap.size + 1, 0, none⟩), .pointer (some ⟨w.heap.size + 1 + 1 + 1 + 1 + 1, 0, none⟩)]] := by rw [h6, ← s5]; exact Blk.new _ _ _
  have e02 := e01.trans e12
  have e26 := e23.trans (e34.trans (e45.trans e56))
  refine (firstAp_any v l P Hgr w2 (w.heap.size + 1 + 1 + 1 + 1) (w.heap.size + 1 + 1 + 1) (w.heap.size + 1 + 1) w.heap.size (w.heap.size + 1) (w.heap.size + 1 + 1 + 1 + 1 + 1) (by omega) (by omega) (by omega) (by omega) (by omega) (by omega) (by omega) (by omega) (by omega) p1 p2 (fun W hW => ((B1.ext e12).ext hW).cell (i := 0) rfl) (fun W hW => (B2.ext hW).cell (i := 0) rfl) (Lib.hid fun W hW => HH.out.ext (e02.trans hW)) (fun W b hW hb => HPP.out W b (e02.trans hW) hb) (ord l + 1) 0 0 0 w6 (0, -1) 0 (by omega) (by omega) (by decide) (by omega) (by simp) (by simp) e26 (B3.ext (e34.trans (e45.trans e56))) (B4.ext (e45.trans e56)) (B5.ext e56) B6).mono ?_
  rintro e w7 ⟨rfl, c7, hB7, hS7, hC7, hF7, -, -⟩
  have hc0 : (cnt 0) = 0 := cnt_zero
  have hfin : (fsI P (ord l) (ord l + 1) 0 0 0 (0, -1)).1 = fsS P (ord l) (ord l + 1) 0 0 := by
    have := He.out
    rw [hc0] at this
    rw [this, if_pos (by show (-1 : Int) < _; omega)]
  rw [hfin] at hB7
  have hx7 := hB7.cell (i := 0) (v := .int .i64 (fsS P (ord l) (ord l + 1) 0 0 : Nat)) rfl
  have hy7 := hC7.cell (i := 0) (v := .int .i64 c7) rfl
  have hE7 : Ext w w7 := hF7.ext (e02.trans e26) (by rintro k (rfl | rfl | rfl) <;> omega)
  have kx := fun U => cell_in hx7 _ (lat_ext w7 U)
  have ky := fun U => cell_in hy7 _ (lat_ext w7 U)
  have hE := Ext.refl w7
  clear hfin hc0 hx7 hy7 s1 s2 s3 s4 s5
  go_wp2_with fail
  (refine wp_region_lat (w7) (by kernel_rfl) (by kernel_rfl) hE ?_); (repeat (go_big_quiet_step (first | fail))); (refine wpQuiet_nil ?_); (intro W hE'); (replace hE := lat_of hE'); (clear hE')
  go_wp2_with fail
  exact bodyPost_ret (v := .tuple #[.int .i64 (fsS P (ord l) (ord l + 1) 0 0 : Nat), .int .i64 c7]) (by simp [results, Try.results163, go_sem]) rfl ⟨_, rfl, hE7.trans hE⟩
theorem ap1_any (v : Value) (l : List Int) (b bG : Nat) (w : World) (hG : ∀ W, Ext w W → W.cell? ⟨bG, 0, none⟩ = some v) (h : Ints w v l) :
    Calls Try.prog 199 #[.int .i64 b, .pointer (some ⟨bG, 0, none⟩)] w fun e w' => e = .returned (.bool (apP l b)) ∧ Ext w w' := by
  have kG := hG _ (Ext.refl w)
  have hc := IsApFree_any v l (b : Int) w h
  clear hG h
  go_enter Try.func199, Try.ntmps199
  go_wp2_with fail
  refine hc.mono ?_
  rintro e w1 ⟨rfl, hE1⟩
  go_wp2_with fail
  go_ret
  exact ⟨rfl, hE1⟩
theorem LargestApFree_any (v : Value) (l : List Int) (w : World) (h : Ints w v l) :
    Calls Try.prog 118 #[.agg #[v]] w fun e w' => e = .returned (.tuple #[.int .i64 (lgV (apP l) l 11 : Nat), .bool (lgB l 11)]) ∧ Ext w w' := by
  obtain ⟨wb, hwb⟩ : ∃ wb, wb = w.alloc (.cells #[v] 31) := ⟨_, rfl⟩
  have hE0 := (Ext.refl w).alloc (.cells #[v] 31)
  have hb := box_cell w v 31
  rw [← hwb] at hE0 hb
  have hg : ∀ W, Ext wb W → Ints W v l := fun W hW => h.ext (hE0.trans hW)
  have hE := Ext.refl wb
  have Hsz : Hid (w.heap.size + 1 = wb.heap.size) := Lib.hid (by rw [hwb]; simp [go_sem])
  have Hwb := Lib.hid hwb
  clear hwb h
  have hbx := hb wb hE
  have hmf : ∀ (fn : Fn) (first cap : Array Value) (w : World), (Instr.makeFunc fn first cap).run Try.prog w = .ok (.func fn first cap) w := fun _ _ _ _ => rfl
  have cG := IsGroup_any v l wb (hg _ hE)
  cases hgr : isGrp l
  · have hB : lgB l 11 = false := by unfold lgB; rw [hgr]; rfl
    have Hs := Lib.hid (And.intro hB (lg_no (P := apP l) hB))
    rw [hgr] at cG
    clear hB
    go_enter Try.func118, Try.ntmps118
    go_wp2_with fail
    rw [← Hwb.out]
    refine cG.mono ?_
    rintro e w1 ⟨rfl, hE1⟩
    go_wp2_with fail
    exact bodyPost_ret (v := .tuple #[.int .i64 0, .bool false]) (by simp [results, Try.results118, go_sem]) rfl ⟨by rw [Hs.out.1, Hs.out.2]; rfl, hE0.trans hE1⟩
  rw [hgr] at cG
  have Hgr := Lib.hid hgr
  have hob := ord_bd hgr
  have cO := fun W (hW : Ext wb W) => OrderOf_grp v l W (hg _ hW) Hgr
  by_cases hm : ord l ≤ 11
  rotate_left
  · have hB : lgB l 11 = false := by unfold lgB; rw [hgr]; simpa using hm
    have Hs := Lib.hid (And.intro hB (lg_no (P := apP l) hB))
    clear hB
    go_enter Try.func118, Try.ntmps118
    go_wp2_with fail
    rw [← Hwb.out]
    refine cG.mono ?_
    rintro e w1 ⟨rfl, hE1⟩
    have hb1 := hb w1 hE1
    go_wp2_with (refine (cO _ hE1).mono ?_; rintro e w2 ⟨rfl, hE2⟩)
    exact bodyPost_ret (v := .tuple #[.int .i64 0, .bool false]) (by simp [results, Try.results118, go_sem]) rfl ⟨by rw [Hs.out.1, Hs.out.2]; rfl, hE0.trans (hE1.trans hE2)⟩
  have hB : lgB l 11 = true := by unfold lgB; rw [hgr]; simpa using hm
  have Hs := Lib.hid (And.intro hB (lg_yes (P := apP l) hB))
  have cF := fun W (hW : Ext wb W) => firstAp_fn v l (apP l) Hgr W (hg W hW) (.pointer (some ⟨w.heap.size, 0, none⟩)) (.pointer none) (fun W' b hW' hb' => ap1_any v l b w.heap.size W' (fun X hX => hb X (hW.trans (hW'.trans hX))) (hg W' (hW.trans hW')))
  obtain ⟨R, hR⟩ : ∃ R, R = fsS (apP l) (ord l) (ord l + 1) 0 0 := ⟨_, rfl⟩
  rw [← hR] at cF Hs
  clear hB hgr hR
  go_enter Try.func118, Try.ntmps118
  go_wp2_with fail
  rw [← Hwb.out]
  refine cG.mono ?_
  rintro e w1 ⟨rfl, hE1⟩
  have hb1 := hb w1 hE1
  go_wp2_with (go_at_call 114; refine (cO _ hE1).mono ?_; rintro e w2 ⟨rfl, hE2⟩; have hE12 := hE1.trans hE2; have hb2 := hb w2 hE12)
  refine (cF _ hE12).mono ?_
  rintro e w3 ⟨c, rfl, hE3⟩
  go_wp2_with fail
  exact bodyPost_ret (v := .tuple #[.int .i64 R, .bool true]) (by simp [results, Try.results118, go_sem]) rfl ⟨by rw [Hs.out.1, Hs.out.2], hE0.trans (hE12.trans hE3)⟩
theorem freeP_one {l : List Int} (hg : isGrp l = true) : freeP l 1 = false := by
  unfold freeP
  have : ¬ (sumF l 1 1 &&& 1 = 0) := fun e => by
    have h0 : (sumF l 1 1).testBit 0 = true :=
       testBit_sumF.2 ⟨0, 0, by omega, by decide, by omega, by decide, addF_zero l (isGrp_ords hg) 0 (by have := (ord_bd hg).1; omega)⟩
    rw [Nat.testBit_zero, decide_eq_true_iff] at h0
    have := Nat.and_one_is_mod (sumF l 1 1)
    omega
  rw [decide_eq_false this]; simp
theorem sLargestSumFree_any (v : Value) (l : List Int) (w : World) (h : Ints w v l) :
    Calls Try.prog 108 #[.agg #[v]] w fun e w' => e = .returned (.tuple #[.int .i64 (lgV (freeP l) l 16 : Nat), .bool (lgB l 16)]) ∧ Ext w w' := by
  obtain ⟨wb, hwb⟩ : ∃ wb, wb = w.alloc (.cells #[v] 31) := ⟨_, rfl⟩
  have hE0 := (Ext.refl w).alloc (.cells #[v] 31)
  have hb := box_cell w v 31
  rw [← hwb] at hE0 hb
  have hg : ∀ W, Ext wb W → Ints W v l := fun W hW => h.ext (hE0.trans hW)
  have hE := Ext.refl wb
  have Hsz : Hid (w.heap.size + 1 = wb.heap.size) := Lib.hid (by rw [hwb]; simp [go_sem])
  have Hwb := Lib.hid hwb
  clear hwb h
  have hbx := hb wb hE
  have cG := sIsGroup_any v l wb (hg _ hE)
  cases hgr : isGrp l
  · have hB : lgB l 16 = false := by unfold lgB; rw [hgr]; rfl
    have Hs := Lib.hid (And.intro hB (lg_no (P := freeP l) hB))
    rw [hgr] at cG
    clear hB
    go_enter Try.func108, Try.ntmps108
    go_wp2_with fail
    rw [← Hwb.out]
    refine cG.mono ?_
    rintro e w1 ⟨rfl, hE1⟩
    go_wp2_with fail
    exact bodyPost_ret (v := .tuple #[.int .i64 0, .bool false]) (by simp [results, Try.results108, go_sem]) rfl ⟨by rw [Hs.out.1, Hs.out.2]; rfl, hE0.trans hE1⟩
  rw [hgr] at cG
  have Hgr := Lib.hid hgr
  have hob := ord_bd hgr
  have cO := fun W (hW : Ext wb W) => l2Order_any v l W (hg _ hW) Hgr
  by_cases hm : ord l ≤ 16
  rotate_left
  · have hB : lgB l 16 = false := by unfold lgB; rw [hgr]; simpa using hm
    have Hs := Lib.hid (And.intro hB (lg_no (P := freeP l) hB))
    clear hB
    go_enter Try.func108, Try.ntmps108
    go_wp2_with fail
    rw [← Hwb.out]
    refine cG.mono ?_
    rintro e w1 ⟨rfl, hE1⟩
    have hb1 := hb w1 hE1
    go_wp2_with (refine (cO _ hE1).mono ?_; rintro e w2 ⟨rfl, hE2⟩)
    exact bodyPost_ret (v := .tuple #[.int .i64 0, .bool false]) (by simp [results, Try.results108, go_sem]) rfl ⟨by rw [Hs.out.1, Hs.out.2]; rfl, hE0.trans (hE1.trans hE2)⟩
  have hB : lgB l 16 = true := by unfold lgB; rw [hgr]; simpa using hm
  have Hs := Lib.hid (And.intro hB (lg_yes (P := freeP l) hB))
  have cF := fun W (hW : Ext wb W) => (show Calls Try.prog 187 #[.agg #[v], .int .i64 0, .int .i64 1] W fun e w' => e = .returned (.int .i64 (fsS (freeP l) (ord l) (ord l + 1) 0 0 : Nat)) ∧ Ext W w' from by have q := sLgFree_any v l (freeP l) Hgr (Lib.hid fun W b hb' hbo => by have q2 := l21Free_any v l b W hb' Hgr (Nat.lt_of_lt_of_le hbo (pow_ord Hgr.out)); unfold freeP; rw [isSetB_of Hgr.out hbo, Bool.true_and]; exact q2) (ord l + 1) 0 1 W (hg W hW) (by omega) (by omega) (by decide); rw [← fsS_from1 (freeP_one Hgr.out)] at q; exact q)
  obtain ⟨R, hR⟩ : ∃ R, R = fsS (freeP l) (ord l) (ord l + 1) 0 0 := ⟨_, rfl⟩
  rw [← hR] at cF Hs
  clear hB hgr hR
  go_enter Try.func108, Try.ntmps108
  go_wp2_with fail
  rw [← Hwb.out]
  refine cG.mono ?_
  rintro e w1 ⟨rfl, hE1⟩
  have hb1 := hb w1 hE1
  go_wp2_with (go_at_call 106; refine (cO _ hE1).mono ?_; rintro e w2 ⟨rfl, hE2⟩; have hE12 := hE1.trans hE2; have hb2 := hb w2 hE12)
  refine (cF _ hE12).mono ?_
  rintro e w3 ⟨rfl, hE3⟩
  go_wp2_with fail
  exact bodyPost_ret (v := .tuple #[.int .i64 R, .bool true]) (by simp [results, Try.results108, go_sem]) rfl ⟨by rw [Hs.out.1, Hs.out.2], hE0.trans (hE12.trans hE3)⟩
theorem sLargestSidon_any (v : Value) (l : List Int) (w : World) (h : Ints w v l) :
    Calls Try.prog 109 #[.agg #[v]] w fun e w' => e = .returned (.tuple #[.int .i64 (lgV (sidP l) l 13 : Nat), .bool (lgB l 13)]) ∧ Ext w w' := by
  obtain ⟨wb, hwb⟩ : ∃ wb, wb = w.alloc (.cells #[v] 31) := ⟨_, rfl⟩
  have hE0 := (Ext.refl w).alloc (.cells #[v] 31)
  have hb := box_cell w v 31
  rw [← hwb] at hE0 hb
  have hg : ∀ W, Ext wb W → Ints W v l := fun W hW => h.ext (hE0.trans hW)
  have hE := Ext.refl wb
  have Hsz : Hid (w.heap.size + 1 = wb.heap.size) := Lib.hid (by rw [hwb]; simp [go_sem])
  have Hwb := Lib.hid hwb
  clear hwb h
  have hbx := hb wb hE
  have cG := sIsGroup_any v l wb (hg _ hE)
  cases hgr : isGrp l
  · have hB : lgB l 13 = false := by unfold lgB; rw [hgr]; rfl
    have Hs := Lib.hid (And.intro hB (lg_no (P := sidP l) hB))
    rw [hgr] at cG
    clear hB
    go_enter Try.func109, Try.ntmps109
    go_wp2_with fail
    rw [← Hwb.out]
    refine cG.mono ?_
    rintro e w1 ⟨rfl, hE1⟩
    go_wp2_with fail
    exact bodyPost_ret (v := .tuple #[.int .i64 0, .bool false]) (by simp [results, Try.results109, go_sem]) rfl ⟨by rw [Hs.out.1, Hs.out.2]; rfl, hE0.trans hE1⟩
  rw [hgr] at cG
  have Hgr := Lib.hid hgr
  have hob := ord_bd hgr
  have cO := fun W (hW : Ext wb W) => l2Order_any v l W (hg _ hW) Hgr
  by_cases hm : ord l ≤ 13
  rotate_left
  · have hB : lgB l 13 = false := by unfold lgB; rw [hgr]; simpa using hm
    have Hs := Lib.hid (And.intro hB (lg_no (P := sidP l) hB))
    clear hB
    go_enter Try.func109, Try.ntmps109
    go_wp2_with fail
    rw [← Hwb.out]
    refine cG.mono ?_
    rintro e w1 ⟨rfl, hE1⟩
    have hb1 := hb w1 hE1
    go_wp2_with (refine (cO _ hE1).mono ?_; rintro e w2 ⟨rfl, hE2⟩)
    exact bodyPost_ret (v := .tuple #[.int .i64 0, .bool false]) (by simp [results, Try.results109, go_sem]) rfl ⟨by rw [Hs.out.1, Hs.out.2]; rfl, hE0.trans (hE1.trans hE2)⟩
  have hB : lgB l 13 = true := by unfold lgB; rw [hgr]; simpa using hm
  have Hs := Lib.hid (And.intro hB (lg_yes (P := sidP l) hB))
  have cF := fun W (hW : Ext wb W) => (show Calls Try.prog 188 #[.agg #[v], .int .i64 0, .int .i64 0] W fun e w' => e = .returned (.int .i64 (fsS (sidP l) (ord l) (ord l + 1) 0 0 : Nat)) ∧ Ext W w' from by have q := sLgSid_any v l (sidP l) Hgr (Lib.hid fun W b hb' hbo => by have q2 := l22Sidon_any v l b W hb' Hgr (Nat.lt_of_lt_of_le hbo (pow_ord Hgr.out)); unfold sidP; rw [sidB_yes (isSetB_of Hgr.out hbo)]; exact q2) (ord l + 1) 0 0 W (hg W hW) (by omega) (by omega) (by decide); exact q)
  obtain ⟨R, hR⟩ : ∃ R, R = fsS (sidP l) (ord l) (ord l + 1) 0 0 := ⟨_, rfl⟩
  rw [← hR] at cF Hs
  clear hB hgr hR
  go_enter Try.func109, Try.ntmps109
  go_wp2_with fail
  rw [← Hwb.out]
  refine cG.mono ?_
  rintro e w1 ⟨rfl, hE1⟩
  have hb1 := hb w1 hE1
  go_wp2_with (go_at_call 106; refine (cO _ hE1).mono ?_; rintro e w2 ⟨rfl, hE2⟩; have hE12 := hE1.trans hE2; have hb2 := hb w2 hE12)
  refine (cF _ hE12).mono ?_
  rintro e w3 ⟨rfl, hE3⟩
  go_wp2_with fail
  exact bodyPost_ret (v := .tuple #[.int .i64 R, .bool true]) (by simp [results, Try.results109, go_sem]) rfl ⟨by rw [Hs.out.1, Hs.out.2], hE0.trans (hE12.trans hE3)⟩
theorem sLargestApFree_any (v : Value) (l : List Int) (w : World) (h : Ints w v l) :
    Calls Try.prog 110 #[.agg #[v]] w fun e w' => e = .returned (.tuple #[.int .i64 (lgV (apP l) l 11 : Nat), .bool (lgB l 11)]) ∧ Ext w w' := by
  obtain ⟨wb, hwb⟩ : ∃ wb, wb = w.alloc (.cells #[v] 31) := ⟨_, rfl⟩
  have hE0 := (Ext.refl w).alloc (.cells #[v] 31)
  have hb := box_cell w v 31
  rw [← hwb] at hE0 hb
  have hg : ∀ W, Ext wb W → Ints W v l := fun W hW => h.ext (hE0.trans hW)
  have hE := Ext.refl wb
  have Hsz : Hid (w.heap.size + 1 = wb.heap.size) := Lib.hid (by rw [hwb]; simp [go_sem])
  have Hwb := Lib.hid hwb
  clear hwb h
  have hbx := hb wb hE
  have cG := sIsGroup_any v l wb (hg _ hE)
  cases hgr : isGrp l
  · have hB : lgB l 11 = false := by unfold lgB; rw [hgr]; rfl
    have Hs := Lib.hid (And.intro hB (lg_no (P := apP l) hB))
    rw [hgr] at cG
    clear hB
    go_enter Try.func110, Try.ntmps110
    go_wp2_with fail
    rw [← Hwb.out]
    refine cG.mono ?_
    rintro e w1 ⟨rfl, hE1⟩
    go_wp2_with fail
    exact bodyPost_ret (v := .tuple #[.int .i64 0, .bool false]) (by simp [results, Try.results110, go_sem]) rfl ⟨by rw [Hs.out.1, Hs.out.2]; rfl, hE0.trans hE1⟩
  rw [hgr] at cG
  have Hgr := Lib.hid hgr
  have hob := ord_bd hgr
  have cO := fun W (hW : Ext wb W) => l2Order_any v l W (hg _ hW) Hgr
  by_cases hm : ord l ≤ 11
  rotate_left
  · have hB : lgB l 11 = false := by unfold lgB; rw [hgr]; simpa using hm
    have Hs := Lib.hid (And.intro hB (lg_no (P := apP l) hB))
    clear hB
    go_enter Try.func110, Try.ntmps110
    go_wp2_with fail
    rw [← Hwb.out]
    refine cG.mono ?_
    rintro e w1 ⟨rfl, hE1⟩
    have hb1 := hb w1 hE1
    go_wp2_with (refine (cO _ hE1).mono ?_; rintro e w2 ⟨rfl, hE2⟩)
    exact bodyPost_ret (v := .tuple #[.int .i64 0, .bool false]) (by simp [results, Try.results110, go_sem]) rfl ⟨by rw [Hs.out.1, Hs.out.2]; rfl, hE0.trans (hE1.trans hE2)⟩
  have hB : lgB l 11 = true := by unfold lgB; rw [hgr]; simpa using hm
  have Hs := Lib.hid (And.intro hB (lg_yes (P := apP l) hB))
  have cF := fun W (hW : Ext wb W) => (show Calls Try.prog 189 #[.agg #[v], .int .i64 0, .int .i64 0] W fun e w' => e = .returned (.int .i64 (fsS (apP l) (ord l) (ord l + 1) 0 0 : Nat)) ∧ Ext W w' from by have q := sLgAp_any v l (apP l) Hgr (Lib.hid fun W b hb' hbo => (sTriplesIn_any v l b W hb').mono fun e w' ⟨⟨n, q1, _, q2⟩, q3⟩ => ⟨n, q1, q2, q3⟩) (ord l + 1) 0 0 W (hg W hW) (by omega) (by omega) (by decide); exact q)
  obtain ⟨R, hR⟩ : ∃ R, R = fsS (apP l) (ord l) (ord l + 1) 0 0 := ⟨_, rfl⟩
  rw [← hR] at cF Hs
  clear hB hgr hR
  go_enter Try.func110, Try.ntmps110
  go_wp2_with fail
  rw [← Hwb.out]
  refine cG.mono ?_
  rintro e w1 ⟨rfl, hE1⟩
  have hb1 := hb w1 hE1
  go_wp2_with (go_at_call 106; refine (cO _ hE1).mono ?_; rintro e w2 ⟨rfl, hE2⟩; have hE12 := hE1.trans hE2; have hb2 := hb w2 hE12)
  refine (cF _ hE12).mono ?_
  rintro e w3 ⟨rfl, hE3⟩
  go_wp2_with fail
  exact bodyPost_ret (v := .tuple #[.int .i64 R, .bool true]) (by simp [results, Try.results110, go_sem]) rfl ⟨by rw [Hs.out.1, Hs.out.2], hE0.trans (hE12.trans hE3)⟩
end Go.Zz

/- Lines with more parts where something is so; l34Yes. -/
namespace Go.Zz
open Go.RowKit Go.Proofs
set_option maxHeartbeats 1000000
set_option maxRecDepth 4000

theorem ownS_one (w : World) (s : ByteArray) : OwnS w (w.alloc (.cells #[.string s] 9)) (.slice (some ⟨w.heap.size, 0, none⟩) 1 1) [s] := by
  have := World.ownsRow_lit (base := w.heap.size) (e := 9) (size := 1) w #[.string s] 1 (Nat.le_refl _) (by unfold maxLen; omega) (by simp)
  exact ⟨by simpa using this, by simp⟩
section
variable {ops : Array Oper} {rest : List Oper} {o : Oper} {a : Act} {Q : Exit → Act → World → Prop}
theorem wp_appendsS (hg : o.guard = none) (s x : Operand) (hop : o.op = Op.call { callee := Callee.builtin Builtin.append, args := #[s, x], argTypes := #[106, 106] })
    (w0 W : World) (v u : Value) (l m : List ByteArray) (hO : OwnS w0 W v l) (hM : Strs W u m) (hE : Ext w0 W) (hm0 : 0 < m.length) (hn : l.length + m.length < 1000000) (hs : a.eval s = v) (hx : a.eval x = u)
    (hK : ∀ v' w', OwnS w0 w' v' (l ++ m) → Ext w0 w' → wpList Try.prog ops Q rest (a.put o.dst v') w') :
    wpList Try.prog ops Q (o :: rest) a W := by
  obtain ⟨i, hi, hz, hs1, hby⟩ := info_parts infoS
  obtain ⟨ao, c, rfl, hlen, hcell⟩ := hM
  obtain ⟨g, rfl, -⟩ := hcell 0 hm0
  refine wpList_append_own _ hg s x 106 hop w0.heap.size 9 i (.string ⟨#[]⟩) 1 16 undS hi hz hs1 hby rfl (by omega) v l.length _ hs hO.1 ⟨g, 0, none⟩ m.length c (m.map Value.string) hx (by simp) ?_ ?_ (by unfold maxLen; omega) (by omega) hE.size ?_
  · intro j u hu
    have hj : j < m.length := by have := (List.getElem?_eq_some_iff.1 hu).1; simpa using this
    obtain ⟨g', hg', hc⟩ := hcell j hj
    simp only [Option.some.injEq, Addr.mk.injEq, and_true] at hg'
    subst hg'
    rw [Addr.add_lit, Nat.zero_add, hc, ← hu]; simp [nthS, List.getD, hj]
  · intro u hu
    obtain ⟨y, _, rfl⟩ := List.mem_map.1 hu
    rfl
  · intro v' w' h1 hg' _
    exact hK v' w' ⟨by simpa using h1, by simp; omega⟩ (hE.grown hg' fun k hk => (hO.blk k hk).1)
end
theorem ifSo_any (s : ByteArray) (b : Bool) (v : Value) (m : List ByteArray) (w : World) (h : Strs w v m) (hs : s.size ≤ 5000) (hm : ∀ i, i < m.length → (nthS m i).size ≤ 5000) (h0 : 0 < m.length) (hn : m.length ≤ 50) :
    Calls Try.prog 102 #[.string s, .bool b, v] w fun e w' => e = .returned (.string (if b then lineF (s :: m) else s)) ∧ Ext w w' := by
  cases b
  · go_enter Try.func102, Try.ntmps102
    go_wp2_with fail
    go_ret
    exact ⟨rfl, Ext.refl _⟩
  · have hE := (Ext.refl w).alloc (.cells #[.string s] 9)
    have hM := h.ext hE
    have hO := ownS_one w s
    have hcL := fun v' W (hv : Strs W v' (s :: m)) => line_any v' (s :: m) W hv (fun i hi => by
      cases i with
      | zero => exact hs
      | succ i => exact hm i (by simpa using hi)) (by simp; omega)
    have hln : [s].length + m.length < 1000000 := by simp; omega
    obtain ⟨ao, c, rfl, -, -⟩ := h
    clear hm hs
    go_enter Try.func102, Try.ntmps102
    go_wp2_with (first | (at_builtin; refine wp_appendsS rfl _ _ rfl w _ _ _ _ _ hO hM hE h0 hln rfl rfl ?_; intro v1 w1 hO1 hE1) | (go_at_call 98; refine (hcL _ _ hO1.strs).mono ?_; rintro e w2 ⟨rfl, rfl⟩))
    go_ret
    exact ⟨rfl, hE1⟩
theorem yes_any (b : Bool) (s : ByteArray) (w : World) :
    Calls Try.prog 123 #[.bool b, .string s] w fun e w' => e = .returned (.string (if b then s else ⟨#[]⟩)) ∧ w = w' := by
  cases b
  · go_enter Try.func123, Try.ntmps123
    go_wp2_with fail
    go_ret
    exact ⟨rfl, rfl⟩
  · go_enter Try.func123, Try.ntmps123
    go_wp2_with fail
    go_ret
    exact ⟨rfl, rfl⟩
theorem bytes_ext {x y : ByteArray} (h : x.data.toList = y.data.toList) : x = y := by
  cases x; cases y; simp only at h; congr 1; exact Array.toList_inj.1 h
theorem data_app (x y : ByteArray) : (x ++ y).data.toList = x.data.toList ++ y.data.toList := by
  rw [ByteArray.data_append]; simp
end Go.Zz

/- ExtremalLine of the reference. -/
namespace Go.Zz
open Go.RowKit Go.Proofs
set_option maxHeartbeats 2000000
set_option maxRecDepth 8000

noncomputable def elF (l : List Int) : ByteArray := if lzB l then (((((((⟨#[101, 120, 116, 114, 101, 109, 97, 108, 32, 102, 114, 101, 101, 32]⟩ : ByteArray) ++ fqF l (castL (lzL l))) ++ (⟨#[32, 115, 117, 109, 102, 114, 101, 101, 32]⟩ : ByteArray)) ++ fsF l (lgV (freeP l) l 16 : Nat)) ++ (⟨#[32, 115, 105, 100, 111, 110, 32]⟩ : ByteArray)) ++ fsF l (lgV (sidP l) l 13 : Nat)) ++ (⟨#[32, 97, 112, 102, 114, 101, 101, 32]⟩ : ByteArray)) ++ fsF l (lgV (apP l) l 11 : Nat) else ⟨#[]⟩
theorem elF_no {l : List Int} (h : lzB l = false) : elF l = ⟨#[]⟩ := by unfold elF; rw [h]; rfl
theorem elF_yes {l : List Int} (h : lzB l = true) : elF l = (((((((⟨#[101, 120, 116, 114, 101, 109, 97, 108, 32, 102, 114, 101, 101, 32]⟩ : ByteArray) ++ fqF l (castL (lzL l))) ++ (⟨#[32, 115, 117, 109, 102, 114, 101, 101, 32]⟩ : ByteArray)) ++ fsF l (lgV (freeP l) l 16 : Nat)) ++ (⟨#[32, 115, 105, 100, 111, 110, 32]⟩ : ByteArray)) ++ fsF l (lgV (sidP l) l 13 : Nat)) ++ (⟨#[32, 97, 112, 102, 114, 101, 101, 32]⟩ : ByteArray)) ++ fsF l (lgV (apP l) l 11 : Nat) := by unfold elF; rw [h]; rfl
theorem numF_sz {l : List Int} (h : ∀ i, i < l.length → -1 ≤ nth l i ∧ nth l i < 1000000000000) (hl : l.length ≤ 40) : (numF l).size ≤ 560 := by
  unfold numF
  split
  · decide
  · have := jn_size comma (fun i => fmtB (nth l i)) (by decide) l.length fun i hi => fmtB_size (h i hi)
    omega
theorem fsF_sz (l : List Int) (a : Int) : (fsF l a).size ≤ 600 := by
  cases h : isSetB l a
  · rw [fsF_no h]; decide
  · obtain ⟨n, rfl, -, hn, -⟩ := isSetB_nat h
    rw [fsF_nat h]
    have := numF_sz (l := castL (elems n)) (elems_in n) (by rw [castL_len]; have := elems_len n; omega)
    omega
theorem fqF_size (l xs : List Int) : (fqF l xs).size ≤ 60012 := by
  cases hs : seqB l xs
  · rw [fqF_no hs]; decide
  · obtain ⟨X, rfl, -, hX12, -, hX⟩ := seqB_nat hs
    by_cases h0 : X.length = 0
    · rw [fqF_none hs (by rw [castL_len]; exact h0)]; decide
    · rw [fqF_yes hs h0]
      have hfl := fqL_len X X.length
      have := jn_size2 sp1 (nthS (fqL X X.length)) (by decide) (fqL X X.length).length (fun i hi => by have := fqL_size (X := X) (by omega) hX X.length (Nat.le_refl _) _ (nthS_mem hi); omega)
      omega
theorem sExtremalLine_any (v : Value) (l : List Int) (w : World) (h : Ints w v l) :
    Calls Try.prog 14 #[.agg #[v]] w fun e w' => e = .returned (.string (elF l)) ∧ Ext w w' := by
  obtain ⟨wb, hwb⟩ : ∃ wb, wb = w.alloc (.cells #[v] 31) := ⟨_, rfl⟩
  have hE0 := (Ext.refl w).alloc (.cells #[v] 31)
  have hb := box_cell w v 31
  rw [← hwb] at hE0 hb
  have hg : ∀ W, Ext wb W → Ints W v l := fun W hW => h.ext (hE0.trans hW)
  have hE := Ext.refl wb
  have Hsz : Hid (w.heap.size + 1 = wb.heap.size) := Lib.hid (by rw [hwb]; simp [go_sem])
  have Hwb := Lib.hid hwb
  clear hwb h
  have hbx := hb wb hE
  have cG := sIsGroup_any v l wb (hg _ hE)
  cases hgr : isGrp l
  · have hB : lzB l = false := by unfold lzB; rw [hgr]; rfl
    have Hs := Lib.hid (elF_no hB)
    rw [hgr] at cG
    clear hB
    go_enter Try.func14, Try.ntmps14
    go_wp2_with fail
    rw [← Hwb.out]
    refine cG.mono ?_
    rintro e w1 ⟨rfl, hE1⟩
    go_wp2_with fail
    go_ret
    exact ⟨ret_str Hs.out.symm, hE0.trans hE1⟩
  rw [hgr] at cG
  have Hgr := Lib.hid hgr
  have hob := ord_bd hgr
  have cO := fun W (hW : Ext wb W) => l2Order_any v l W (hg _ hW) Hgr
  by_cases hm : ord l ≤ 9
  rotate_left
  · have hB : lzB l = false := by unfold lzB; rw [hgr]; simpa using hm
    have Hs := Lib.hid (elF_no hB)
    clear hB
    go_enter Try.func14, Try.ntmps14
    go_wp2_with fail
    rw [← Hwb.out]
    refine cG.mono ?_
    rintro e w1 ⟨rfl, hE1⟩
    have hb1 := hb w1 hE1
    go_wp2_with (refine (cO _ hE1).mono ?_; rintro e w2 ⟨rfl, hE2⟩)
    go_ret
    exact ⟨ret_str Hs.out.symm, hE0.trans (hE1.trans hE2)⟩
  have hB : lzB l = true := by unfold lzB; rw [hgr]; simpa using hm
  have Hs := Lib.hid (elF_yes hB)
  have c1 := fun W (hW : Ext wb W) => sLongestZeroFree_any v l W (hg _ hW)
  have c2 := fun W (hW : Ext wb W) => sLargestSumFree_any v l W (hg _ hW)
  have c3 := fun W (hW : Ext wb W) => sLargestSidon_any v l W (hg _ hW)
  have c4 := fun W (hW : Ext wb W) => sLargestApFree_any v l W (hg _ hW)
  have cA := fun W vZ (hW : Ext wb W) (hI : Ints W vZ (castL (lzL l))) => sFormatSequence_any v vZ l (castL (lzL l)) W (hg _ hW) hI
  have cB := fun W (hW : Ext wb W) => sFormatSet_any v l (lgV (freeP l) l 16 : Nat) W (hg _ hW)
  have cC := fun W (hW : Ext wb W) => sFormatSet_any v l (lgV (sidP l) l 13 : Nat) W (hg _ hW)
  have cD := fun W (hW : Ext wb W) => sFormatSet_any v l (lgV (apP l) l 11 : Nat) W (hg _ hW)
  have sA := fqF_size l (castL (lzL l))
  have sB := fsF_sz l (lgV (freeP l) l 16 : Nat)
  have sC := fsF_sz l (lgV (sidP l) l 13 : Nat)
  have sD := fsF_sz l (lgV (apP l) l 11 : Nat)
  obtain ⟨A, hA⟩ : ∃ x, x = fqF l (castL (lzL l)) := ⟨_, rfl⟩
  obtain ⟨B, hBd⟩ : ∃ x, x = fsF l (lgV (freeP l) l 16 : Nat) := ⟨_, rfl⟩
  obtain ⟨C, hC⟩ : ∃ x, x = fsF l (lgV (sidP l) l 13 : Nat) := ⟨_, rfl⟩
  obtain ⟨D, hD⟩ : ∃ x, x = fsF l (lgV (apP l) l 11 : Nat) := ⟨_, rfl⟩
  rw [← hA] at cA sA Hs
  rw [← hBd] at cB sB Hs
  rw [← hC] at cC sC Hs
  rw [← hD] at cD sD Hs
  obtain ⟨n2, h2⟩ : ∃ x, x = lgV (freeP l) l 16 := ⟨_, rfl⟩
  obtain ⟨n3, h3⟩ : ∃ x, x = lgV (sidP l) l 13 := ⟨_, rfl⟩
  obtain ⟨n4, h4⟩ : ∃ x, x = lgV (apP l) l 11 := ⟨_, rfl⟩
  rw [← h2] at c2 cB
  rw [← h3] at c3 cC
  rw [← h4] at c4 cD
  clear hA hBd hC hD h2 h3 h4 hB hgr
  go_enter Try.func14, Try.ntmps14
  go_wp2_with fail
  rw [← Hwb.out]
  refine cG.mono ?_
  rintro e w1 ⟨rfl, hE1⟩
  have hb1 := hb w1 hE1
  go_wp2_with (go_at_call 106; refine (cO _ hE1).mono ?_; rintro e w2 ⟨rfl, hE2⟩; have hE12 := hE1.trans hE2; have hb2 := hb w2 hE12)
  refine (c1 _ hE12).mono ?_
  rintro e w3 ⟨aoZ, cZ, rfl, hIZ, hE3⟩
  have hE13 := hE12.trans hE3
  have hb3 := hb w3 hE13
  go_wp2_with fail
  refine (c2 _ hE13).mono ?_
  rintro e w4 ⟨rfl, hE4⟩
  have hE14 := hE13.trans hE4
  have hb4 := hb w4 hE14
  go_wp2_with fail
  refine (c3 _ hE14).mono ?_
  rintro e w5 ⟨rfl, hE5⟩
  have hE15 := hE14.trans hE5
  have hb5 := hb w5 hE15
  go_wp2_with fail
  refine (c4 _ hE15).mono ?_
  rintro e w6 ⟨rfl, hE6⟩
  have hE16 := hE15.trans hE6
  have hIZ6 := hIZ.ext (hE4.trans (hE5.trans hE6))
  have hb6 := fun U => hb _ (hE16.trans (lat_ext w6 U))
  have hE := Ext.refl w6
  go_wp2_with fail
  (refine wp_region_lat (w6) (by kernel_rfl) (by kernel_rfl) hE ?_); (repeat (go_big_quiet_step (first | (go_at_call 111; with_reducible exact Calls.lat (cA _ _ (hE16.trans (lat_ext w6 _)) (hIZ6.ext (lat_ext w6 _)))) | (go_at_call 112; first | with_reducible exact Calls.lat (cB _ (hE16.trans (lat_ext w6 _))) | with_reducible exact Calls.lat (cC _ (hE16.trans (lat_ext w6 _))) | with_reducible exact Calls.lat (cD _ (hE16.trans (lat_ext w6 _))))))); (refine wpQuiet_nil ?_); (intro W hE'); (replace hE := lat_of hE'); (clear hE')
  go_wp2_with fail
  go_ret
  exact ⟨ret_str Hs.out.symm, hE0.trans (hE16.trans hE)⟩
end Go.Zz
