/- Largest sets without sums, of Sidon and without progressions: the program. -/
import Derived.Test.YtgmbjfjihhdenaaGr14
import Derived.Test.YtgmbjfjihhdenaaGr15
namespace Go.Zz
open Go.RowKit Go.Proofs
set_option maxHeartbeats 2000000
set_option maxRecDepth 4000

/-- sets of Sidon -/
noncomputable def sidP (l : List Int) (b : Nat) : Bool := sidB l b
def lgB (l : List Int) (m : Nat) : Bool := isGrp l && decide (ord l ≤ m)
def lgV (P : Nat → Bool) (l : List Int) (m : Nat) : Nat := if lgB l m then fsS P (ord l) (ord l + 1) 0 0 else 0
theorem lg_no {P : Nat → Bool} {l : List Int} {m : Nat} (h : lgB l m = false) : lgV P l m = 0 := by unfold lgV; rw [h]; rfl
theorem lg_yes {P : Nat → Bool} {l : List Int} {m : Nat} (h : lgB l m = true) : lgV P l m = fsS P (ord l) (ord l + 1) 0 0 := by unfold lgV; rw [h]; rfl
theorem firstSf_any (v : Value) (l : List Int) (P : Nat → Bool) (Hgr : Hid (isGrp l = true)) (W0 : World) (bC bS bB bG bI bT : Nat) (hCS : bC ≠ bS) (hCB : bC ≠ bB) (hSB : bS ≠ bB) (hTC : bT ≠ bC) (hTS : bT ≠ bS) (hTB : bT ≠ bB) (h0C : W0.heap.size ≤ bC) (h0S : W0.heap.size ≤ bS) (h0B : W0.heap.size ≤ bB)
    (p1 p2 : Value) (HG : ∀ W, Ext W0 W → W.cell? ⟨bG, 0, none⟩ = some v) (HF : ∀ W, Ext W0 W → W.cell? ⟨bI, 0, none⟩ = some (.func (.func 195) #[] #[p1])) (HI : Hid (∀ W, Ext W0 W → Ints W v l))
    (HP : ∀ W b, Ext W0 W → b < 2 ^ 24 → Calls Try.prog 195 #[.int .i64 (b : Nat), p1] W fun e w' => e = .returned (.bool (P b)) ∧ Ext W w') :
    ∀ (f b n fr : Nat) (w : World) (s : Nat × Int) (c : Int), ord l < fr + f → fr ≤ ord l → b < 2 ^ 24 → n ≤ fr → -1 ≤ s.2 → s.2 ≤ 24 → Ext W0 w → Blk w bB 3 #[.int .i64 s.1] → Blk w bS 3 #[.int .i64 s.2] → Blk w bC 3 #[.int .i64 c] →
    Blk w bT 125 #[.func (.func 218) #[] #[.pointer (some ⟨bC, 0, none⟩), .pointer (some ⟨bS, 0, none⟩), .pointer (some ⟨bB, 0, none⟩), .pointer (some ⟨bG, 0, none⟩), .pointer (some ⟨bI, 0, none⟩), .pointer (some ⟨bT, 0, none⟩)]] →
    Calls Try.prog 218 #[.int .i64 b, .int .i64 n, .int .i64 fr, .pointer (some ⟨bC, 0, none⟩), .pointer (some ⟨bS, 0, none⟩), .pointer (some ⟨bB, 0, none⟩), .pointer (some ⟨bG, 0, none⟩), .pointer (some ⟨bI, 0, none⟩), .pointer (some ⟨bT, 0, none⟩)] w fun e w' =>
      e = .returned (.tuple #[]) ∧ ∃ c', Blk w' bB 3 #[.int .i64 (fsI P (ord l) f b n fr s).1] ∧ Blk w' bS 3 #[.int .i64 (fsI P (ord l) f b n fr s).2] ∧ Blk w' bC 3 #[.int .i64 c'] ∧ Fw (S3 bC bS bB) w w' ∧ -1 ≤ (fsI P (ord l) f b n fr s).2 ∧ (fsI P (ord l) f b n fr s).2 ≤ 24 := by
  intro f
  induction f with
  | zero => intro b n fr w s c hf hfr; omega
  | succ f ih =>
    intro b n fr w s c hf hfr hb24 hn hs1 hs2 hE0 hB hS hC hT
    have hob := ord_bd Hgr.out
    have Hih := Lib.hid ih
    clear ih
    obtain ⟨c1, hc1⟩ : ∃ c1, c1 = wrap64 (c + 1) := ⟨_, rfl⟩
    have kc := hC.cell (i := 0) (v := .int .i64 c) rfl
    have fc := hC.free 0
    have B1 : Blk (w.setCell ⟨bC, 0, none⟩ (.int .i64 (wrap64 (c + 1)))) bB 3 #[.int .i64 s.1] := hB.other (by simpa using hCB.symm) _
    have S1 : Blk (w.setCell ⟨bC, 0, none⟩ (.int .i64 (wrap64 (c + 1)))) bS 3 #[.int .i64 s.2] := hS.other (by simpa using hCS.symm) _
    have C1 : Blk (w.setCell ⟨bC, 0, none⟩ (.int .i64 (wrap64 (c + 1)))) bC 3 #[.int .i64 (wrap64 (c + 1))] := hC.set 0 _
    have F1 : Fw (S3 bC bS bB) w (w.setCell ⟨bC, 0, none⟩ (.int .i64 (wrap64 (c + 1)))) := fw_set (Or.inl rfl) w 0 _
    have ks1 := S1.cell (i := 0) (v := .int .i64 s.2) rfl
    have kb1 := B1.cell (i := 0) (v := .int .i64 s.1) rfl
    have fb1 := B1.free 0
    have hS3 : ∀ k, S3 bC bS bB k → W0.heap.size ≤ k := by rintro k (rfl | rfl | rfl) <;> assumption
    have hT3 : ¬ S3 bC bS bB bT := by rintro (h | h | h) <;> contradiction
    by_cases hq : s.2 < (n : Int)
    · have B2 : Blk ((w.setCell ⟨bC, 0, none⟩ (.int .i64 (wrap64 (c + 1)))).setCell ⟨bB, 0, none⟩ (.int .i64 b)) bB 3 #[.int .i64 b] := B1.set 0 _
      have S2 : Blk ((w.setCell ⟨bC, 0, none⟩ (.int .i64 (wrap64 (c + 1)))).setCell ⟨bB, 0, none⟩ (.int .i64 b)) bS 3 #[.int .i64 s.2] := S1.other (by simpa using hSB) _
      have C2 : Blk ((w.setCell ⟨bC, 0, none⟩ (.int .i64 (wrap64 (c + 1)))).setCell ⟨bB, 0, none⟩ (.int .i64 b)) bC 3 #[.int .i64 (wrap64 (c + 1))] := C1.other (by simpa using hCB) _
      have ks2 := S2.cell (i := 0) (v := .int .i64 s.2) rfl
      have fs2 := S2.free 0
      have s0 := fsIto_start (P := P) (N := ord l) (f := f) (b := b) (n := n) (fr := fr) (s := s)
      rw [if_pos hq] at s0
      have HB0 : Hid (Blk (((w.setCell ⟨bC, 0, none⟩ (.int .i64 (wrap64 (c + 1)))).setCell ⟨bB, 0, none⟩ (.int .i64 b)).setCell ⟨bS, 0, none⟩ (.int .i64 n)) bB 3 #[.int .i64 (fsIto P (ord l) f b n fr s fr).1]) := Lib.hid (by rw [s0]; exact B2.other (by simpa using hSB.symm) _)
      have HS0 : Hid (Blk (((w.setCell ⟨bC, 0, none⟩ (.int .i64 (wrap64 (c + 1)))).setCell ⟨bB, 0, none⟩ (.int .i64 b)).setCell ⟨bS, 0, none⟩ (.int .i64 n)) bS 3 #[.int .i64 (fsIto P (ord l) f b n fr s fr).2]) := Lib.hid (by rw [s0]; exact S2.set 0 _)
      have HC0 : Hid (Blk (((w.setCell ⟨bC, 0, none⟩ (.int .i64 (wrap64 (c + 1)))).setCell ⟨bB, 0, none⟩ (.int .i64 b)).setCell ⟨bS, 0, none⟩ (.int .i64 n)) bC 3 #[.int .i64 (wrap64 (c + 1))]) := Lib.hid (C2.other (by simpa using hCS) _)
      have HF0 : Hid (Fw (S3 bC bS bB) w (((w.setCell ⟨bC, 0, none⟩ (.int .i64 (wrap64 (c + 1)))).setCell ⟨bB, 0, none⟩ (.int .i64 b)).setCell ⟨bS, 0, none⟩ (.int .i64 n))) := Lib.hid ((F1.trans (fw_set (Or.inr (Or.inr rfl)) _ 0 _)).trans (fw_set (Or.inr (Or.inl rfl)) _ 0 _))
      have Hb0 : Hid (-1 ≤ (fsIto P (ord l) f b n fr s fr).2 ∧ (fsIto P (ord l) f b n fr s fr).2 ≤ 24) := Lib.hid (by rw [s0]; simp only; omega)
      clear s0 B1 S1 C1 F1 B2 S2 C2 hB hS hC hc1
      go_enter Try.func218, Try.ntmps218
      go_wp2_with fail
      clear kc fc ks1 kb1 fb1 ks2 fs2 hq
      go_loopw [12] (fun xv wr => ∃ (k : Nat) (c' : Int), fr ≤ k ∧ k ≤ ord l ∧ xv = .int .i64 k ∧ Blk wr bB 3 #[.int .i64 (fsIto P (ord l) f b n fr s k).1] ∧ Blk wr bS 3 #[.int .i64 (fsIto P (ord l) f b n fr s k).2] ∧ Blk wr bC 3 #[.int .i64 c'] ∧ Fw (S3 bC bS bB) w wr ∧ -1 ≤ (fsIto P (ord l) f b n fr s k).2 ∧ (fsIto P (ord l) f b n fr s k).2 ≤ 24) (fun x _ => ord l - (intOf x).toNat)
      case atStart => exact ⟨fr, _, by omega, by omega, rfl, HB0.out, HS0.out, HC0.out, HF0.out, Hb0.out.1, Hb0.out.2⟩
      case round =>
        obtain ⟨k, c', hk1, hk2, rfl, hB, hS, hC, hF, hb1, hb2⟩ := hrel
        clear HB0 HS0 HC0 HF0 Hb0
        have hEr := hF.ext hE0 hS3
        have hTr := hF.blk hT hT3
        obtain ⟨z, hz⟩ : ∃ z, z = fsIto P (ord l) f b n fr s k := ⟨_, rfl⟩
        rw [← hz] at hB hS hb1 hb2
        have HB := Lib.hid hB
        have HS := Lib.hid hS
        have HC := Lib.hid hC
        have HFw := Lib.hid hF
        clear hB hS hC hF
        by_cases hlt : k < ord l
        · have hk24 : k < 24 := by omega
          have hs1' := ishl_one (n := k) (by omega)
          have hs2' := ior_pw hb24 hk24
          have hbk : b ||| 2 ^ k < 2 ^ 24 := Nat.or_lt_two_pow hb24 (Nat.pow_lt_pow_right (by omega) hk24)
          cases hP : P (b ||| 2 ^ k)
          · have Hn : Hid (fsIto P (ord l) f b n fr s (k + 1) = z) := Lib.hid (by rw [fsIto_no hP, hz])
            have hcP := fun W (hW : Ext wr W) => HP W (b ||| 2 ^ k) (hEr.trans hW) hbk
            rw [hP] at hcP
            clear hz hP
            go_wp2_with (first | (go_at_call 114; refine (OrderOf_grp _ _ _ (HI.out _ hEr) Hgr).mono ?_; rintro e1 w1 ⟨rfl, hE1⟩; have hE01 := hEr.trans hE1) | (go_at_call 195; refine (hcP _ hE1).mono ?_; rintro e2 w2 ⟨rfl, hE2⟩; have hE12 := hE1.trans hE2))
            go_roundw
            case rel => exact ⟨k + 1, c', by omega, by omega, by go_num, by rw [Hn.out]; exact HB.out.ext hE12, by rw [Hn.out]; exact HS.out.ext hE12, HC.out.ext hE12, HFw.out.trans (hE12.fw _), by rw [Hn.out]; exact hb1, by rw [Hn.out]; exact hb2⟩
            case measure => (simp [intOf]; omega)
          · have Hn : Hid (fsIto P (ord l) f b n fr s (k + 1) = fsI P (ord l) f (b ||| 2 ^ k) (n + 1) (k + 1) z) := Lib.hid (by rw [fsIto_yes hlt hk1 hP, hz])
            have hcP := fun W (hW : Ext wr W) => HP W (b ||| 2 ^ k) (hEr.trans hW) hbk
            rw [hP] at hcP
            have hcR := fun W (hE : Ext wr W) => Hih.out (b ||| 2 ^ k) (n + 1) (k + 1) W z c' (by omega) (by omega) hbk (by omega) hb1 hb2 (hEr.trans hE) (HB.out.ext hE) (HS.out.ext hE) (HC.out.ext hE) (hTr.ext hE)
            rw [show ((n + 1 : Nat) : Int) = (n : Int) + 1 by omega, show ((k + 1 : Nat) : Int) = (k : Int) + 1 by omega] at hcR
            have kt : ∀ W, Ext wr W → W.cell? ⟨bT, 0, none⟩ = some (.func (.func 218) #[] #[.pointer (some ⟨bC, 0, none⟩), .pointer (some ⟨bS, 0, none⟩), .pointer (some ⟨bB, 0, none⟩), .pointer (some ⟨bG, 0, none⟩), .pointer (some ⟨bI, 0, none⟩), .pointer (some ⟨bT, 0, none⟩)]) := fun W hW => (hTr.ext hW).cell (i := 0) rfl
            clear hz hP
            go_wp2_with (first | (go_at_call 114; refine (OrderOf_grp _ _ _ (HI.out _ hEr) Hgr).mono ?_; rintro e1 w1 ⟨rfl, hE1⟩; have hE01 := hEr.trans hE1) | (go_at_call 195; refine (hcP _ hE1).mono ?_; rintro e2 w2 ⟨rfl, hE2⟩; have hE12 := hE1.trans hE2) | (go_at_call 218; refine (hcR _ hE12).mono ?_; rintro e3 w3 ⟨rfl, c3, hB3, hS3', hC3, hF3, hb3, hb4⟩))
            go_roundw
            case rel => exact ⟨k + 1, c3, by omega, by omega, by go_num, by rw [Hn.out]; exact hB3, by rw [Hn.out]; exact hS3', hC3, HFw.out.trans ((hE12.fw _).trans hF3), by rw [Hn.out]; exact hb3, by rw [Hn.out]; exact hb4⟩
            case measure => (simp [intOf]; omega)
        · have hkl : k = ord l := by omega
          have Hn : Hid (fsI P (ord l) (f + 1) b n fr s = z) := Lib.hid (by rw [fsI_end hob.2, hz, hkl])
          clear hz
          go_wp2_with (go_at_call 114; refine (OrderOf_grp _ _ _ (HI.out _ hEr) Hgr).mono ?_; rintro e1 w1 ⟨rfl, hE1⟩; have hE01 := hEr.trans hE1)
          go_end0
          exact ⟨rfl, c', by rw [Hn.out]; exact HB.out.ext hE1, by rw [Hn.out]; exact HS.out.ext hE1, HC.out.ext hE1, HFw.out.trans (hE1.fw _), by rw [Hn.out]; exact hb1, by rw [Hn.out]; exact hb2⟩
    · have s0 := fsIto_start (P := P) (N := ord l) (f := f) (b := b) (n := n) (fr := fr) (s := s)
      rw [if_neg hq] at s0
      have HB0 : Hid (Blk (w.setCell ⟨bC, 0, none⟩ (.int .i64 (wrap64 (c + 1)))) bB 3 #[.int .i64 (fsIto P (ord l) f b n fr s fr).1]) := Lib.hid (by rw [s0]; exact B1)
      have HS0 : Hid (Blk (w.setCell ⟨bC, 0, none⟩ (.int .i64 (wrap64 (c + 1)))) bS 3 #[.int .i64 (fsIto P (ord l) f b n fr s fr).2]) := Lib.hid (by rw [s0]; exact S1)
      have HC0 := Lib.hid C1
      have HF0 := Lib.hid F1
      have Hb0 : Hid (-1 ≤ (fsIto P (ord l) f b n fr s fr).2 ∧ (fsIto P (ord l) f b n fr s fr).2 ≤ 24) := Lib.hid (by rw [s0]; exact ⟨hs1, hs2⟩)
      clear s0 B1 S1 C1 F1 hB hS hC hc1
      go_enter Try.func218, Try.ntmps218
      go_wp2_with fail
      clear kc fc ks1 kb1 fb1 hq
      go_loopw [12] (fun xv wr => ∃ (k : Nat) (c' : Int), fr ≤ k ∧ k ≤ ord l ∧ xv = .int .i64 k ∧ Blk wr bB 3 #[.int .i64 (fsIto P (ord l) f b n fr s k).1] ∧ Blk wr bS 3 #[.int .i64 (fsIto P (ord l) f b n fr s k).2] ∧ Blk wr bC 3 #[.int .i64 c'] ∧ Fw (S3 bC bS bB) w wr ∧ -1 ≤ (fsIto P (ord l) f b n fr s k).2 ∧ (fsIto P (ord l) f b n fr s k).2 ≤ 24) (fun x _ => ord l - (intOf x).toNat)
      case atStart => exact ⟨fr, _, by omega, by omega, rfl, HB0.out, HS0.out, HC0.out, HF0.out, Hb0.out.1, Hb0.out.2⟩
      case round =>
        obtain ⟨k, c', hk1, hk2, rfl, hB, hS, hC, hF, hb1, hb2⟩ := hrel
        clear HB0 HS0 HC0 HF0 Hb0
        have hEr := hF.ext hE0 hS3
        have hTr := hF.blk hT hT3
        obtain ⟨z, hz⟩ : ∃ z, z = fsIto P (ord l) f b n fr s k := ⟨_, rfl⟩
        rw [← hz] at hB hS hb1 hb2
        have HB := Lib.hid hB
        have HS := Lib.hid hS
        have HC := Lib.hid hC
        have HFw := Lib.hid hF
        clear hB hS hC hF
        by_cases hlt : k < ord l
        · have hk24 : k < 24 := by omega
          have hs1' := ishl_one (n := k) (by omega)
          have hs2' := ior_pw hb24 hk24
          have hbk : b ||| 2 ^ k < 2 ^ 24 := Nat.or_lt_two_pow hb24 (Nat.pow_lt_pow_right (by omega) hk24)
          cases hP : P (b ||| 2 ^ k)
          · have Hn : Hid (fsIto P (ord l) f b n fr s (k + 1) = z) := Lib.hid (by rw [fsIto_no hP, hz])
            have hcP := fun W (hW : Ext wr W) => HP W (b ||| 2 ^ k) (hEr.trans hW) hbk
            rw [hP] at hcP
            clear hz hP
            go_wp2_with (first | (go_at_call 114; refine (OrderOf_grp _ _ _ (HI.out _ hEr) Hgr).mono ?_; rintro e1 w1 ⟨rfl, hE1⟩; have hE01 := hEr.trans hE1) | (go_at_call 195; refine (hcP _ hE1).mono ?_; rintro e2 w2 ⟨rfl, hE2⟩; have hE12 := hE1.trans hE2))
            go_roundw
            case rel => exact ⟨k + 1, c', by omega, by omega, by go_num, by rw [Hn.out]; exact HB.out.ext hE12, by rw [Hn.out]; exact HS.out.ext hE12, HC.out.ext hE12, HFw.out.trans (hE12.fw _), by rw [Hn.out]; exact hb1, by rw [Hn.out]; exact hb2⟩
            case measure => (simp [intOf]; omega)
          · have Hn : Hid (fsIto P (ord l) f b n fr s (k + 1) = fsI P (ord l) f (b ||| 2 ^ k) (n + 1) (k + 1) z) := Lib.hid (by rw [fsIto_yes hlt hk1 hP, hz])
            have hcP := fun W (hW : Ext wr W) => HP W (b ||| 2 ^ k) (hEr.trans hW) hbk
            rw [hP] at hcP
            have hcR := fun W (hE : Ext wr W) => Hih.out (b ||| 2 ^ k) (n + 1) (k + 1) W z c' (by omega) (by omega) hbk (by omega) hb1 hb2 (hEr.trans hE) (HB.out.ext hE) (HS.out.ext hE) (HC.out.ext hE) (hTr.ext hE)
            rw [show ((n + 1 : Nat) : Int) = (n : Int) + 1 by omega, show ((k + 1 : Nat) : Int) = (k : Int) + 1 by omega] at hcR
            have kt : ∀ W, Ext wr W → W.cell? ⟨bT, 0, none⟩ = some (.func (.func 218) #[] #[.pointer (some ⟨bC, 0, none⟩), .pointer (some ⟨bS, 0, none⟩), .pointer (some ⟨bB, 0, none⟩), .pointer (some ⟨bG, 0, none⟩), .pointer (some ⟨bI, 0, none⟩), .pointer (some ⟨bT, 0, none⟩)]) := fun W hW => (hTr.ext hW).cell (i := 0) rfl
            clear hz hP
            go_wp2_with (first | (go_at_call 114; refine (OrderOf_grp _ _ _ (HI.out _ hEr) Hgr).mono ?_; rintro e1 w1 ⟨rfl, hE1⟩; have hE01 := hEr.trans hE1) | (go_at_call 195; refine (hcP _ hE1).mono ?_; rintro e2 w2 ⟨rfl, hE2⟩; have hE12 := hE1.trans hE2) | (go_at_call 218; refine (hcR _ hE12).mono ?_; rintro e3 w3 ⟨rfl, c3, hB3, hS3', hC3, hF3, hb3, hb4⟩))
            go_roundw
            case rel => exact ⟨k + 1, c3, by omega, by omega, by go_num, by rw [Hn.out]; exact hB3, by rw [Hn.out]; exact hS3', hC3, HFw.out.trans ((hE12.fw _).trans hF3), by rw [Hn.out]; exact hb3, by rw [Hn.out]; exact hb4⟩
            case measure => (simp [intOf]; omega)
        · have hkl : k = ord l := by omega
          have Hn : Hid (fsI P (ord l) (f + 1) b n fr s = z) := Lib.hid (by rw [fsI_end hob.2, hz, hkl])
          clear hz
          go_wp2_with (go_at_call 114; refine (OrderOf_grp _ _ _ (HI.out _ hEr) Hgr).mono ?_; rintro e1 w1 ⟨rfl, hE1⟩; have hE01 := hEr.trans hE1)
          go_end0
          exact ⟨rfl, c', by rw [Hn.out]; exact HB.out.ext hE1, by rw [Hn.out]; exact HS.out.ext hE1, HC.out.ext hE1, HFw.out.trans (hE1.fw _), by rw [Hn.out]; exact hb1, by rw [Hn.out]; exact hb2⟩
theorem firstSf_fn (v : Value) (l : List Int) (P : Nat → Bool) (Hgr : Hid (isGrp l = true)) (w : World) (h : Ints w v l) (p1 p2 : Value)
    (HP : ∀ W b, Ext w W → b < 2 ^ 24 → Calls Try.prog 195 #[.int .i64 (b : Nat), p1] W fun e w' => e = .returned (.bool (P b)) ∧ Ext W w') :
    Calls Try.prog 163 #[.agg #[v], .func (.func 195) #[] #[p1]] w fun e w' => ∃ c, e = .returned (.tuple #[.int .i64 (fsS P (ord l) (ord l + 1) 0 0 : Nat), .int .i64 c]) ∧ Ext w w' := by
  have hob := ord_bd Hgr.out
  have hmf : ∀ (fn : Fn) (first cap : Array Value) (w : World), (Instr.makeFunc fn first cap).run Try.prog w = .ok (.func fn first cap) w := fun _ _ _ _ => rfl
  have He := Lib.hid (fsI_eq P (ord l) hob.2 (ord l + 1) 0 0 (0, -1) (by simp) (by omega))
  have HH := Lib.hid h
  have HPP := Lib.hid HP
  clear h HP
  go_enter Try.func163, Try.ntmps163
  go_wp2_with fail
  obtain ⟨w1, h1⟩ : ∃ x, x = w.alloc (.cells #[v] 31) := ⟨_, rfl⟩
  obtain ⟨w2, h2⟩ : ∃ x, x = w1.alloc (.cells #[.func (.func 195) #[] #[p1]] 86) := ⟨_, rfl⟩
  obtain ⟨w3, h3⟩ : ∃ x, x = w2.alloc (.cells #[.int .i64 0] 3) := ⟨_, rfl⟩
  obtain ⟨w4, h4⟩ : ∃ x, x = w3.alloc (.cells #[.int .i64 (-1)] 3) := ⟨_, rfl⟩
  obtain ⟨w5, h5⟩ : ∃ x, x = w4.alloc (.cells #[.int .i64 0] 3) := ⟨_, rfl⟩
  obtain ⟨w6, h6⟩ : ∃ x, x = w5.alloc (.cells #[.func (.func 218) #[] #[.pointer (some ⟨w.heap.size + 1 + 1 + 1 + 1, 0, none⟩), .pointer (some ⟨w.heap.size + 1 + 1 + 1, 0, none⟩), .pointer (some ⟨w.heap.size + 1 + 1, 0, none⟩), .pointer (some ⟨w.heap.size, 0, none⟩), .pointer (some ⟨w.heap.size + 1, 0, none⟩), .pointer (some ⟨w.heap.size + 1 + 1 + 1 + 1 + 1, 0, none⟩)]] 125) := ⟨_, rfl⟩
  rw [← h1, ← h2, ← h3, ← h4, ← h5, ← h6]
  have s1 : w1.heap.size = w.heap.size + 1 := by rw [h1]; simp
  have s2 : w2.heap.size = w.heap.size + 1 + 1 := by rw [h2]; simp [s1]
  have s3 : w3.heap.size = w.heap.size + 1 + 1 + 1 := by rw [h3]; simp [s2]
  have s4 : w4.heap.size = w.heap.size + 1 + 1 + 1 + 1 := by rw [h4]; simp [s3]
  have s5 : w5.heap.size = w.heap.size + 1 + 1 + 1 + 1 + 1 := by rw [h5]; simp [s4]
  have e01 : Ext w w1 := by rw [h1]; exact (Ext.refl _).alloc _
  have e12 : Ext w1 w2 := by rw [h2]; exact (Ext.refl _).alloc _
  have e23 : Ext w2 w3 := by rw [h3]; exact (Ext.refl _).alloc _
  have e34 : Ext w3 w4 := by rw [h4]; exact (Ext.refl _).alloc _
  have e45 : Ext w4 w5 := by rw [h5]; exact (Ext.refl _).alloc _
  have e56 : Ext w5 w6 := by rw [h6]; exact (Ext.refl _).alloc _
  have B1 : Blk w1 w.heap.size 31 #[v] := by rw [h1]; exact Blk.new _ _ _
  have B2 : Blk w2 (w.heap.size + 1) 86 #[.func (.func 195) #[] #[p1]] := by rw [h2, ← s1]; exact Blk.new _ _ _
  have B3 : Blk w3 (w.heap.size + 1 + 1) 3 #[.int .i64 ((0 : Nat) : Int)] := by rw [h3, ← s2]; exact Blk.new _ _ _
  have B4 : Blk w4 (w.heap.size + 1 + 1 + 1) 3 #[.int .i64 (-1)] := by rw [h4, ← s3]; exact Blk.new _ _ _
  have B5 : Blk w5 (w.heap.size + 1 + 1 + 1 + 1) 3 #[.int .i64 0] := by rw [h5, ← s4]; exact Blk.new _ _ _
  have B6 : Blk w6 (w.heap.size + 1 + 1 + 1 + 1 + 1) 125 #[.func (.func 218) #[] #[.pointer (some ⟨w.heap.size + 1 + 1 + 1 + 1, 0, none⟩), .pointer (some ⟨w.heap.size + 1 + 1 + 1, 0, none⟩), .pointer (some ⟨w.heap.size + 1 + 1, 0, none⟩), .pointer (some ⟨w.heap.size, 0, none⟩), .pointer (some ⟨w.heap.size + 1, 0, none⟩), .pointer (some ⟨w.heap.size + 1 + 1 + 1 + 1 + 1, 0, none⟩)]] := by rw [h6, ← s5]; exact Blk.new _ _ _
  have e02 := e01.trans e12
  have e26 := e23.trans (e34.trans (e45.trans e56))
  refine (firstSf_any v l P Hgr w2 (w.heap.size + 1 + 1 + 1 + 1) (w.heap.size + 1 + 1 + 1) (w.heap.size + 1 + 1) w.heap.size (w.heap.size + 1) (w.heap.size + 1 + 1 + 1 + 1 + 1) (by omega) (by omega) (by omega) (by omega) (by omega) (by omega) (by omega) (by omega) (by omega) p1 p2 (fun W hW => ((B1.ext e12).ext hW).cell (i := 0) rfl) (fun W hW => (B2.ext hW).cell (i := 0) rfl) (Lib.hid fun W hW => HH.out.ext (e02.trans hW)) (fun W b hW hb => HPP.out W b (e02.trans hW) hb) (ord l + 1) 0 0 0 w6 (0, -1) 0 (by omega) (by omega) (by decide) (by omega) (by simp) (by simp) e26 (B3.ext (e34.trans (e45.trans e56))) (B4.ext (e45.trans e56)) (B5.ext e56) B6).mono ?_
  rintro e w7 ⟨rfl, c7, hB7, hS7, hC7, hF7, -, -⟩
  have hc0 : (cnt 0) = 0 := cnt_zero
  have hfin : (fsI P (ord l) (ord l + 1) 0 0 0 (0, -1)).1 = fsS P (ord l) (ord l + 1) 0 0 := by
    have := He.out
    rw [hc0] at this
    rw [this, if_pos (by show (-1 : Int) < _; omega)]
  rw [hfin] at hB7
  have hx7 := hB7.cell (i := 0) (v := .int .i64 (fsS P (ord l) (ord l + 1) 0 0 : Nat)) rfl
  have hy7 := hC7.cell (i := 0) (v := .int .i64 c7) rfl
  have hE7 : Ext w w7 := hF7.ext (e02.trans e26) (by rintro k (rfl | rfl | rfl) <;> omega)
  have kx := fun U => cell_in hx7 _ (lat_ext w7 U)
  have ky := fun U => cell_in hy7 _ (lat_ext w7 U)
  have hE := Ext.refl w7
  clear hfin hc0 hx7 hy7 s1 s2 s3 s4 s5
  go_wp2_with fail
  (refine wp_region_lat (w7) (by kernel_rfl) (by kernel_rfl) hE ?_); (repeat (go_big_quiet_step (first | fail))); (refine wpQuiet_nil ?_); (intro W hE'); (replace hE := lat_of hE'); (clear hE')
  go_wp2_with fail
  exact bodyPost_ret (v := .tuple #[.int .i64 (fsS P (ord l) (ord l + 1) 0 0 : Nat), .int .i64 c7]) (by simp [results, Try.results163, go_sem]) rfl ⟨_, rfl, hE7.trans hE⟩
theorem sf1_any (v : Value) (l : List Int) (b bG : Nat) (w : World) (hG : ∀ W, Ext w W → W.cell? ⟨bG, 0, none⟩ = some v) (h : Ints w v l) :
    Calls Try.prog 195 #[.int .i64 b, .pointer (some ⟨bG, 0, none⟩)] w fun e w' => e = .returned (.bool (freeP l b)) ∧ Ext w w' := by
  have kG := hG _ (Ext.refl w)
  have hc := IsSumFree_any v l (b : Int) w h
  clear hG h
  go_enter Try.func195, Try.ntmps195
  go_wp2_with fail
  refine hc.mono ?_
  rintro e w1 ⟨rfl, hE1⟩
  go_wp2_with fail
  go_ret
  exact ⟨rfl, hE1⟩
theorem LargestSumFree_any (v : Value) (l : List Int) (w : World) (h : Ints w v l) :
    Calls Try.prog 116 #[.agg #[v]] w fun e w' => e = .returned (.tuple #[.int .i64 (lgV (freeP l) l 16 : Nat), .bool (lgB l 16)]) ∧ Ext w w' := by
  obtain ⟨wb, hwb⟩ : ∃ wb, wb = w.alloc (.cells #[v] 31) := ⟨_, rfl⟩
  have hE0 := (Ext.refl w).alloc (.cells #[v] 31)
  have hb := box_cell w v 31
  rw [← hwb] at hE0 hb
  have hg : ∀ W, Ext wb W → Ints W v l := fun W hW => h.ext (hE0.trans hW)
  have hE := Ext.refl wb
  have Hsz : Hid (w.heap.size + 1 = wb.heap.size) := Lib.hid (by rw [hwb]; simp [go_sem])
  have Hwb := Lib.hid hwb
  clear hwb h
  have hbx := hb wb hE
  have hmf : ∀ (fn : Fn) (first cap : Array Value) (w : World), (Instr.makeFunc fn first cap).run Try.prog w = .ok (.func fn first cap) w := fun _ _ _ _ => rfl
  have cG := IsGroup_any v l wb (hg _ hE)
  cases hgr : isGrp l
  · have hB : lgB l 16 = false := by unfold lgB; rw [hgr]; rfl
    have Hs := Lib.hid (And.intro hB (lg_no (P := freeP l) hB))
    rw [hgr] at cG
    clear hB
    go_enter Try.func116, Try.ntmps116
    go_wp2_with fail
    rw [← Hwb.out]
    refine cG.mono ?_
    rintro e w1 ⟨rfl, hE1⟩
    go_wp2_with fail
    exact bodyPost_ret (v := .tuple #[.int .i64 0, .bool false]) (by simp [results, Try.results116, go_sem]) rfl ⟨by rw [Hs.out.1, Hs.out.2]; rfl, hE0.trans hE1⟩
  rw [hgr] at cG
  have Hgr := Lib.hid hgr
  have hob := ord_bd hgr
  have cO := fun W (hW : Ext wb W) => OrderOf_grp v l W (hg _ hW) Hgr
  by_cases hm : ord l ≤ 16
  rotate_left
  · have hB : lgB l 16 = false := by unfold lgB; rw [hgr]; simpa using hm
    have Hs := Lib.hid (And.intro hB (lg_no (P := freeP l) hB))
    clear hB
    go_enter Try.func116, Try.ntmps116
    go_wp2_with fail
    rw [← Hwb.out]
    refine cG.mono ?_
    rintro e w1 ⟨rfl, hE1⟩
    have hb1 := hb w1 hE1
    go_wp2_with (refine (cO _ hE1).mono ?_; rintro e w2 ⟨rfl, hE2⟩)
    exact bodyPost_ret (v := .tuple #[.int .i64 0, .bool false]) (by simp [results, Try.results116, go_sem]) rfl ⟨by rw [Hs.out.1, Hs.out.2]; rfl, hE0.trans (hE1.trans hE2)⟩
  have hB : lgB l 16 = true := by unfold lgB; rw [hgr]; simpa using hm
  have Hs := Lib.hid (And.intro hB (lg_yes (P := freeP l) hB))
  have cF := fun W (hW : Ext wb W) => firstSf_fn v l (freeP l) Hgr W (hg W hW) (.pointer (some ⟨w.heap.size, 0, none⟩)) (.pointer none) (fun W' b hW' hb' => sf1_any v l b w.heap.size W' (fun X hX => hb X (hW.trans (hW'.trans hX))) (hg W' (hW.trans hW')))
  obtain ⟨R, hR⟩ : ∃ R, R = fsS (freeP l) (ord l) (ord l + 1) 0 0 := ⟨_, rfl⟩
  rw [← hR] at cF Hs
  clear hB hgr hR
  go_enter Try.func116, Try.ntmps116
  go_wp2_with fail
  rw [← Hwb.out]
  refine cG.mono ?_
  rintro e w1 ⟨rfl, hE1⟩
  have hb1 := hb w1 hE1
  go_wp2_with (go_at_call 114; refine (cO _ hE1).mono ?_; rintro e w2 ⟨rfl, hE2⟩; have hE12 := hE1.trans hE2; have hb2 := hb w2 hE12)
  refine (cF _ hE12).mono ?_
  rintro e w3 ⟨c, rfl, hE3⟩
  go_wp2_with fail
  exact bodyPost_ret (v := .tuple #[.int .i64 R, .bool true]) (by simp [results, Try.results116, go_sem]) rfl ⟨by rw [Hs.out.1, Hs.out.2], hE0.trans (hE12.trans hE3)⟩
theorem firstSi_any (v : Value) (l : List Int) (P : Nat → Bool) (Hgr : Hid (isGrp l = true)) (W0 : World) (bC bS bB bG bI bT : Nat) (hCS : bC ≠ bS) (hCB : bC ≠ bB) (hSB : bS ≠ bB) (hTC : bT ≠ bC) (hTS : bT ≠ bS) (hTB : bT ≠ bB) (h0C : W0.heap.size ≤ bC) (h0S : W0.heap.size ≤ bS) (h0B : W0.heap.size ≤ bB)
    (p1 p2 : Value) (HG : ∀ W, Ext W0 W → W.cell? ⟨bG, 0, none⟩ = some v) (HF : ∀ W, Ext W0 W → W.cell? ⟨bI, 0, none⟩ = some (.func (.func 197) #[] #[p1])) (HI : Hid (∀ W, Ext W0 W → Ints W v l))
    (HP : ∀ W b, Ext W0 W → b < 2 ^ 24 → Calls Try.prog 197 #[.int .i64 (b : Nat), p1] W fun e w' => e = .returned (.bool (P b)) ∧ Ext W w') :
    ∀ (f b n fr : Nat) (w : World) (s : Nat × Int) (c : Int), ord l < fr + f → fr ≤ ord l → b < 2 ^ 24 → n ≤ fr → -1 ≤ s.2 → s.2 ≤ 24 → Ext W0 w → Blk w bB 3 #[.int .i64 s.1] → Blk w bS 3 #[.int .i64 s.2] → Blk w bC 3 #[.int .i64 c] →
    Blk w bT 125 #[.func (.func 218) #[] #[.pointer (some ⟨bC, 0, none⟩), .pointer (some ⟨bS, 0, none⟩), .pointer (some ⟨bB, 0, none⟩), .pointer (some ⟨bG, 0, none⟩), .pointer (some ⟨bI, 0, none⟩), .pointer (some ⟨bT, 0, none⟩)]] →
    Calls Try.prog 218 #[.int .i64 b, .int .i64 n, .int .i64 fr, .pointer (some ⟨bC, 0, none⟩), .pointer (some ⟨bS, 0, none⟩), .pointer (some ⟨bB, 0, none⟩), .pointer (some ⟨bG, 0, none⟩), .pointer (some ⟨bI, 0, none⟩), .pointer (some ⟨bT, 0, none⟩)] w fun e w' =>
      e = .returned (.tuple #[]) ∧ ∃ c', Blk w' bB 3 #[.int .i64 (fsI P (ord l) f b n fr s).1] ∧ Blk w' bS 3 #[.int .i64 (fsI P (ord l) f b n fr s).2] ∧ Blk w' bC 3 #[.int .i64 c'] ∧ Fw (S3 bC bS bB) w w' ∧ -1 ≤ (fsI P (ord l) f b n fr s).2 ∧ (fsI P (ord l) f b n fr s).2 ≤ 24 := by
  intro f
  induction f with
  | zero => intro b n fr w s c hf hfr; omega
  | succ f ih =>
    intro b n fr w s c hf hfr hb24 hn hs1 hs2 hE0 hB hS hC hT
    have hob := ord_bd Hgr.out
    have Hih := Lib.hid ih
    clear ih
    obtain ⟨c1, hc1⟩ : ∃ c1, c1 = wrap64 (c + 1) := ⟨_, rfl⟩
    have kc := hC.cell (i := 0) (v := .int .i64 c) rfl
    have fc := hC.free 0
    have B1 : Blk (w.setCell ⟨bC, 0, none⟩ (.int .i64 (wrap64 (c + 1)))) bB 3 #[.int .i64 s.1] := hB.other (by simpa using hCB.symm) _
    have S1 : Blk (w.setCell ⟨bC, 0, none⟩ (.int .i64 (wrap64 (c + 1)))) bS 3 #[.int .i64 s.2] := hS.other (by simpa using hCS.symm) _
    have C1 : Blk (w.setCell ⟨bC, 0, none⟩ (.int .i64 (wrap64 (c + 1)))) bC 3 #[.int .i64 (wrap64 (c + 1))] := hC.set 0 _
    have F1 : Fw (S3 bC bS bB) w (w.setCell ⟨bC, 0, none⟩ (.int .i64 (wrap64 (c + 1)))) := fw_set (Or.inl rfl) w 0 _
    have ks1 := S1.cell (i := 0) (v := .int .i64 s.2) rfl
    have kb1 := B1.cell (i := 0) (v := .int .i64 s.1) rfl
    have fb1 := B1.free 0
    have hS3 : ∀ k, S3 bC bS bB k → W0.heap.size ≤ k := by rintro k (rfl | rfl | rfl) <;> assumption
    have hT3 : ¬ S3 bC bS bB bT := by rintro (h | h | h) <;> contradiction
    by_cases hq : s.2 < (n : Int)
    · have B2 : Blk ((w.setCell ⟨bC, 0, none⟩ (.int .i64 (wrap64 (c + 1)))).setCell ⟨bB, 0, none⟩ (.int .i64 b)) bB 3 #[.int .i64 b] := B1.set 0 _
      have S2 : Blk ((w.setCell ⟨bC, 0, none⟩ (.int .i64 (wrap64 (c + 1)))).setCell ⟨bB, 0, none⟩ (.int .i64 b)) bS 3 #[.int .i64 s.2] := S1.other (by simpa using hSB) _
      have C2 : Blk ((w.setCell ⟨bC, 0, none⟩ (.int .i64 (wrap64 (c + 1)))).setCell ⟨bB, 0, none⟩ (.int .i64 b)) bC 3 #[.int .i64 (wrap64 (c + 1))] := C1.other (by simpa using hCB) _
      have ks2 := S2.cell (i := 0) (v := .int .i64 s.2) rfl
      have fs2 := S2.free 0
      have s0 := fsIto_start (P := P) (N := ord l) (f := f) (b := b) (n := n) (fr := fr) (s := s)
      rw [if_pos hq] at s0
      have HB0 : Hid (Blk (((w.setCell ⟨bC, 0, none⟩ (.int .i64 (wrap64 (c + 1)))).setCell ⟨bB, 0, none⟩ (.int .i64 b)).setCell ⟨bS, 0, none⟩ (.int .i64 n)) bB 3 #[.int .i64 (fsIto P (ord l) f b n fr s fr).1]) := Lib.hid (by rw [s0]; exact B2.other (by simpa using hSB.symm) _)
      have HS0 : Hid (Blk (((w.setCell ⟨bC, 0, none⟩ (.int .i64 (wrap64 (c + 1)))).setCell ⟨bB, 0, none⟩ (.int .i64 b)).setCell ⟨bS, 0, none⟩ (.int .i64 n)) bS 3 #[.int .i64 (fsIto P (ord l) f b n fr s fr).2]) := Lib.hid (by rw [s0]; exact S2.set 0 _)
      have HC0 : Hid (Blk (((w.setCell ⟨bC, 0, none⟩ (.int .i64 (wrap64 (c + 1)))).setCell ⟨bB, 0, none⟩ (.int .i64 b)).setCell ⟨bS, 0, none⟩ (.int .i64 n)) bC 3 #[.int .i64 (wrap64 (c + 1))]) := Lib.hid (C2.other (by simpa using hCS) _)
      have HF0 : Hid (Fw (S3 bC bS bB) w (((w.setCell ⟨bC, 0, none⟩ (.int .i64 (wrap64 (c + 1)))).setCell ⟨bB, 0, none⟩ (.int .i64 b)).setCell ⟨bS, 0, none⟩ (.int .i64 n))) := Lib.hid ((F1.trans (fw_set (Or.inr (Or.inr rfl)) _ 0 _)).trans (fw_set (Or.inr (Or.inl rfl)) _ 0 _))
      have Hb0 : Hid (-1 ≤ (fsIto P (ord l) f b n fr s fr).2 ∧ (fsIto P (ord l) f b n fr s fr).2 ≤ 24) := Lib.hid (by rw [s0]; simp only; omega)
      clear s0 B1 S1 C1 F1 B2 S2 C2 hB hS hC hc1
      go_enter Try.func218, Try.ntmps218
      go_wp2_with fail
      clear kc fc ks1 kb1 fb1 ks2 fs2 hq
      go_loopw [12] (fun xv wr => ∃ (k : Nat) (c' : Int), fr ≤ k ∧ k ≤ ord l ∧ xv = .int .i64 k ∧ Blk wr bB 3 #[.int .i64 (fsIto P (ord l) f b n fr s k).1] ∧ Blk wr bS 3 #[.int .i64 (fsIto P (ord l) f b n fr s k).2] ∧ Blk wr bC 3 #[.int .i64 c'] ∧ Fw (S3 bC bS bB) w wr ∧ -1 ≤ (fsIto P (ord l) f b n fr s k).2 ∧ (fsIto P (ord l) f b n fr s k).2 ≤ 24) (fun x _ => ord l - (intOf x).toNat)
      case atStart => exact ⟨fr, _, by omega, by omega, rfl, HB0.out, HS0.out, HC0.out, HF0.out, Hb0.out.1, Hb0.out.2⟩
      case round =>
        obtain ⟨k, c', hk1, hk2, rfl, hB, hS, hC, hF, hb1, hb2⟩ := hrel
        clear HB0 HS0 HC0 HF0 Hb0
        have hEr := hF.ext hE0 hS3
        have hTr := hF.blk hT hT3
        obtain ⟨z, hz⟩ : ∃ z, z = fsIto P (ord l) f b n fr s k := ⟨_, rfl⟩
        rw [← hz] at hB hS hb1 hb2
        have HB := Lib.hid hB
        have HS := Lib.hid hS
        have HC := Lib.hid hC
        have HFw := Lib.hid hF
        clear hB hS hC hF
        by_cases hlt : k < ord l
        · have hk24 : k < 24 := by omega
          have hs1' := ishl_one (n := k) (by omega)
          have hs2' := ior_pw hb24 hk24
          have hbk : b ||| 2 ^ k < 2 ^ 24 := Nat.or_lt_two_pow hb24 (Nat.pow_lt_pow_right (by omega) hk24)
          cases hP : P (b ||| 2 ^ k)
          · have Hn : Hid (fsIto P (ord l) f b n fr s (k + 1) = z) := Lib.hid (by rw [fsIto_no hP, hz])
            have hcP := fun W (hW : Ext wr W) => HP W (b ||| 2 ^ k) (hEr.trans hW) hbk
            rw [hP] at hcP
            clear hz hP
            go_wp2_with (first | (go_at_call 114; refine (OrderOf_grp _ _ _ (HI.out _ hEr) Hgr).mono ?_; rintro e1 w1 ⟨rfl, hE1⟩; have hE01 := hEr.trans hE1) | (go_at_call 197; refine (hcP _ hE1).mono ?_; rintro e2 w2 ⟨rfl, hE2⟩; have hE12 := hE1.trans hE2))
            go_roundw
            case rel => exact ⟨k + 1, c', by omega, by omega, by go_num, by rw [Hn.out]; exact HB.out.ext hE12, by rw [Hn.out]; exact HS.out.ext hE12, HC.out.ext hE12, HFw.out.trans (hE12.fw _), by rw [Hn.out]; exact hb1, by rw [Hn.out]; exact hb2⟩
            case measure => (simp [intOf]; omega)
          · have Hn : Hid (fsIto P (ord l) f b n fr s (k + 1) = fsI P (ord l) f (b ||| 2 ^ k) (n + 1) (k + 1) z) := Lib.hid (by rw [fsIto_yes hlt hk1 hP, hz])
            have hcP := fun W (hW : Ext wr W) => HP W (b ||| 2 ^ k) (hEr.trans hW) hbk
            rw [hP] at hcP
            have hcR := fun W (hE : Ext wr W) => Hih.out (b ||| 2 ^ k) (n + 1) (k + 1) W z c' (by omega) (by omega) hbk (by omega) hb1 hb2 (hEr.trans hE) (HB.out.ext hE) (HS.out.ext hE) (HC.out.ext hE) (hTr.ext hE)
            rw [show ((n + 1 : Nat) : Int) = (n : Int) + 1 by omega, show ((k + 1 : Nat) : Int) = (k : Int) + 1 by omega] at hcR
            have kt : ∀ W, Ext wr W → W.cell? ⟨bT, 0, none⟩ = some (.func (.func 218) #[] #[.pointer (some ⟨bC, 0, none⟩), .pointer (some ⟨bS, 0, none⟩), .pointer (some ⟨bB, 0, none⟩), .pointer (some ⟨bG, 0, none⟩), .pointer (some ⟨bI, 0, none⟩), .pointer (some ⟨bT, 0, none⟩)]) := fun W hW => (hTr.ext hW).cell (i := 0) rfl
            clear hz hP
            go_wp2_with (first | (go_at_call 114; refine (OrderOf_grp _ _ _ (HI.out _ hEr) Hgr).mono ?_; rintro e1 w1 ⟨rfl, hE1⟩; have hE01 := hEr.trans hE1) | (go_at_call 197; refine (hcP _ hE1).mono ?_; rintro e2 w2 ⟨rfl, hE2⟩; have hE12 := hE1.trans hE2) | (go_at_call 218; refine (hcR _ hE12).mono ?_; rintro e3 w3 ⟨rfl, c3, hB3, hS3', hC3, hF3, hb3, hb4⟩))
            go_roundw
            case rel => exact ⟨k + 1, c3, by omega, by omega, by go_num, by rw [Hn.out]; exact hB3, by rw [Hn.out]; exact hS3', hC3, HFw.out.trans ((hE12.fw _).trans hF3), by rw [Hn.out]; exact hb3, by rw [Hn.out]; exact hb4⟩
            case measure => (simp [intOf]; omega)
        · have hkl : k = ord l := by omega
          have Hn : Hid (fsI P (ord l) (f + 1) b n fr s = z) := Lib.hid (by rw [fsI_end hob.2, hz, hkl])
          clear hz
          go_wp2_with (go_at_call 114; refine (OrderOf_grp _ _ _ (HI.out _ hEr) Hgr).mono ?_; rintro e1 w1 ⟨rfl, hE1⟩; have hE01 := hEr.trans hE1)
          go_end0
          exact ⟨rfl, c', by rw [Hn.out]; exact HB.out.ext hE1, by rw [Hn.out]; exact HS.out.ext hE1, HC.out.ext hE1, HFw.out.trans (hE1.fw _), by rw [Hn.out]; exact hb1, by rw [Hn.out]; exact hb2⟩
    · have s0 := fsIto_start (P := P) (N := ord l) (f := f) (b := b) (n := n) (fr := fr) (s := s)
      rw [if_neg hq] at s0
      have HB0 : Hid (Blk (w.setCell ⟨bC, 0, none⟩ (.int .i64 (wrap64 (c + 1)))) bB 3 #[.int .i64 (fsIto P (ord l) f b n fr s fr).1]) := Lib.hid (by rw [s0]; exact B1)
      have HS0 : Hid (Blk (w.setCell ⟨bC, 0, none⟩ (.int .i64 (wrap64 (c + 1)))) bS 3 #[.int .i64 (fsIto P (ord l) f b n fr s fr).2]) := Lib.hid (by rw [s0]; exact S1)
      have HC0 := Lib.hid C1
      have HF0 := Lib.hid F1
      have Hb0 : Hid (-1 ≤ (fsIto P (ord l) f b n fr s fr).2 ∧ (fsIto P (ord l) f b n fr s fr).2 ≤ 24) := Lib.hid (by rw [s0]; exact ⟨hs1, hs2⟩)
      clear s0 B1 S1 C1 F1 hB hS hC hc1
      go_enter Try.func218, Try.ntmps218
      go_wp2_with fail
      clear kc fc ks1 kb1 fb1 hq
      go_loopw [12] (fun xv wr => ∃ (k : Nat) (c' : Int), fr ≤ k ∧ k ≤ ord l ∧ xv = .int .i64 k ∧ Blk wr bB 3 #[.int .i64 (fsIto P (ord l) f b n fr s k).1] ∧ Blk wr bS 3 #[.int .i64 (fsIto P (ord l) f b n fr s k).2] ∧ Blk wr bC 3 #[.int .i64 c'] ∧ Fw (S3 bC bS bB) w wr ∧ -1 ≤ (fsIto P (ord l) f b n fr s k).2 ∧ (fsIto P (ord l) f b n fr s k).2 ≤ 24) (fun x _ => ord l - (intOf x).toNat)
      case atStart => exact ⟨fr, _, by omega, by omega, rfl, HB0.out, HS0.out, HC0.out, HF0.out, Hb0.out.1, Hb0.out.2⟩
      case round =>
        obtain ⟨k, c', hk1, hk2, rfl, hB, hS, hC, hF, hb1, hb2⟩ := hrel
        clear HB0 HS0 HC0 HF0 Hb0
        have hEr := hF.ext hE0 hS3
        have hTr := hF.blk hT hT3
        obtain ⟨z, hz⟩ : ∃ z, z = fsIto P (ord l) f b n fr s k := ⟨_, rfl⟩
        rw [← hz] at hB hS hb1 hb2
        have HB := Lib.hid hB
        have HS := Lib.hid hS
        have HC := Lib.hid hC
        have HFw := Lib.hid hF
        clear hB hS hC hF
        by_cases hlt : k < ord l
        · have hk24 : k < 24 := by omega
          have hs1' := ishl_one (n := k) (by omega)
          have hs2' := ior_pw hb24 hk24
          have hbk : b ||| 2 ^ k < 2 ^ 24 := Nat.or_lt_two_pow hb24 (Nat.pow_lt_pow_right (by omega) hk24)
          cases hP : P (b ||| 2 ^ k)
          · have Hn : Hid (fsIto P (ord l) f b n fr s (k + 1) = z) := Lib.hid (by rw [fsIto_no hP, hz])
            have hcP := fun W (hW : Ext wr W) => HP W (b ||| 2 ^ k) (hEr.trans hW) hbk
            rw [hP] at hcP
            clear hz hP
            go_wp2_with (first | (go_at_call 114; refine (OrderOf_grp _ _ _ (HI.out _ hEr) Hgr).mono ?_; rintro e1 w1 ⟨rfl, hE1⟩; have hE01 := hEr.trans hE1) | (go_at_call 197; refine (hcP _ hE1).mono ?_; rintro e2 w2 ⟨rfl, hE2⟩; have hE12 := hE1.trans hE2))
            go_roundw
            case rel => exact ⟨k + 1, c', by omega, by omega, by go_num, by rw [Hn.out]; exact HB.out.ext hE12, by rw [Hn.out]; exact HS.out.ext hE12, HC.out.ext hE12, HFw.out.trans (hE12.fw _), by rw [Hn.out]; exact hb1, by rw [Hn.out]; exact hb2⟩
            case measure => (simp [intOf]; omega)
          · have Hn : Hid (fsIto P (ord l) f b n fr s (k + 1) = fsI P (ord l) f (b ||| 2 ^ k) (n + 1) (k + 1) z) := Lib.hid (by rw [fsIto_yes hlt hk1 hP, hz])
            have hcP := fun W (hW : Ext wr W) => HP W (b ||| 2 ^ k) (hEr.trans hW) hbk
            rw [hP] at hcP
            have hcR := fun W (hE : Ext wr W) => Hih.out (b ||| 2 ^ k) (n + 1) (k + 1) W z c' (by omega) (by omega) hbk (by omega) hb1 hb2 (hEr.trans hE) (HB.out.ext hE) (HS.out.ext hE) (HC.out.ext hE) (hTr.ext hE)
            rw [show ((n + 1 : Nat) : Int) = (n : Int) + 1 by omega, show ((k + 1 : Nat) : Int) = (k : Int) + 1 by omega] at hcR
            have kt : ∀ W, Ext wr W → W.cell? ⟨bT, 0, none⟩ = some (.func (.func 218) #[] #[.pointer (some ⟨bC, 0, none⟩), .pointer (some ⟨bS, 0, none⟩), .pointer (some ⟨bB, 0, none⟩), .pointer (some ⟨bG, 0, none⟩), .pointer (some ⟨bI, 0, none⟩), .pointer (some ⟨bT, 0, none⟩)]) := fun W hW => (hTr.ext hW).cell (i := 0) rfl
            clear hz hP
            go_wp2_with (first | (go_at_call 114; refine (OrderOf_grp _ _ _ (HI.out _ hEr) Hgr).mono ?_; rintro e1 w1 ⟨rfl, hE1⟩; have hE01 := hEr.trans hE1) | (go_at_call 197; refine (hcP _ hE1).mono ?_; rintro e2 w2 ⟨rfl, hE2⟩; have hE12 := hE1.trans hE2) | (go_at_call 218; refine (hcR _ hE12).mono ?_; rintro e3 w3 ⟨rfl, c3, hB3, hS3', hC3, hF3, hb3, hb4⟩))
            go_roundw
            case rel => exact ⟨k + 1, c3, by omega, by omega, by go_num, by rw [Hn.out]; exact hB3, by rw [Hn.out]; exact hS3', hC3, HFw.out.trans ((hE12.fw _).trans hF3), by rw [Hn.out]; exact hb3, by rw [Hn.out]; exact hb4⟩
            case measure => (simp [intOf]; omega)
        · have hkl : k = ord l := by omega
          have Hn : Hid (fsI P (ord l) (f + 1) b n fr s = z) := Lib.hid (by rw [fsI_end hob.2, hz, hkl])
          clear hz
          go_wp2_with (go_at_call 114; refine (OrderOf_grp _ _ _ (HI.out _ hEr) Hgr).mono ?_; rintro e1 w1 ⟨rfl, hE1⟩; have hE01 := hEr.trans hE1)
          go_end0
          exact ⟨rfl, c', by rw [Hn.out]; exact HB.out.ext hE1, by rw [Hn.out]; exact HS.out.ext hE1, HC.out.ext hE1, HFw.out.trans (hE1.fw _), by rw [Hn.out]; exact hb1, by rw [Hn.out]; exact hb2⟩
theorem firstSi_fn (v : Value) (l : List Int) (P : Nat → Bool) (Hgr : Hid (isGrp l = true)) (w : World) (h : Ints w v l) (p1 p2 : Value)
    (HP : ∀ W b, Ext w W → b < 2 ^ 24 → Calls Try.prog 197 #[.int .i64 (b : Nat), p1] W fun e w' => e = .returned (.bool (P b)) ∧ Ext W w') :
    Calls Try.prog 163 #[.agg #[v], .func (.func 197) #[] #[p1]] w fun e w' => ∃ c, e = .returned (.tuple #[.int .i64 (fsS P (ord l) (ord l + 1) 0 0 : Nat), .int .i64 c]) ∧ Ext w w' := by
  have hob := ord_bd Hgr.out
  have hmf : ∀ (fn : Fn) (first cap : Array Value) (w : World), (Instr.makeFunc fn first cap).run Try.prog w = .ok (.func fn first cap) w := fun _ _ _ _ => rfl
  have He := Lib.hid (fsI_eq P (ord l) hob.2 (ord l + 1) 0 0 (0, -1) (by simp) (by omega))
  have HH := Lib.hid h
  have HPP := Lib.hid HP
  clear h HP
  go_enter Try.func163, Try.ntmps163
  go_wp2_with fail
  obtain ⟨w1, h1⟩ : ∃ x, x = w.alloc (.cells #[v] 31) := ⟨_, rfl⟩
  obtain ⟨w2, h2⟩ : ∃ x, x = w1.alloc (.cells #[.func (.func 197) #[] #[p1]] 86) := ⟨_, rfl⟩
  obtain ⟨w3, h3⟩ : ∃ x, x = w2.alloc (.cells #[.int .i64 0] 3) := ⟨_, rfl⟩
  obtain ⟨w4, h4⟩ : ∃ x, x = w3.alloc (.cells #[.int .i64 (-1)] 3) := ⟨_, rfl⟩
  obtain ⟨w5, h5⟩ : ∃ x, x = w4.alloc (.cells #[.int .i64 0] 3) := ⟨_, rfl⟩
  obtain ⟨w6, h6⟩ : ∃ x, x = w5.alloc (.cells #[.func (.func 218) #[] #[.pointer (some ⟨w.heap.size + 1 + 1 + 1 + 1, 0, none⟩), .pointer (some ⟨w.heap.size + 1 + 1 + 1, 0, none⟩), .pointer (some ⟨w.heap.size + 1 + 1, 0, none⟩), .pointer (some ⟨w.heap.size, 0, none⟩), .pointer (some ⟨w.heap.size + 1, 0, none⟩), .pointer (some ⟨w.heap.size + 1 + 1 + 1 + 1 + 1, 0, none⟩)]] 125) := ⟨_, rfl⟩
  rw [← h1, ← h2, ← h3, ← h4, ← h5, ← h6]
  have s1 : w1.heap.size = w.heap.size + 1 := by rw [h1]; simp
  have s2 : w2.heap.size = w.heap.size + 1 + 1 := by rw [h2]; simp [s1]
  have s3 : w3.heap.size = w.heap.size + 1 + 1 + 1 := by rw [h3]; simp [s2]
  have s4 : w4.heap.size = w.heap.size + 1 + 1 + 1 + 1 := by rw [h4]; simp [s3]
  have s5 : w5.heap.size = w.heap.size + 1 + 1 + 1 + 1 + 1 := by rw [h5]; simp [s4]
  have e01 : Ext w w1 := by rw [h1]; exact (Ext.refl _).alloc _
  have e12 : Ext w1 w2 := by rw [h2]; exact (Ext.refl _).alloc _
  have e23 : Ext w2 w3 := by rw [h3]; exact (Ext.refl _).alloc _
  have e34 : Ext w3 w4 := by rw [h4]; exact (Ext.refl _).alloc _
  have e45 : Ext w4 w5 := by rw [h5]; exact (Ext.refl _).alloc _
  have e56 : Ext w5 w6 := by rw [h6]; exact (Ext.refl _).alloc _
  have B1 : Blk w1 w.heap.size 31 #[v] := by rw [h1]; exact Blk.new _ _ _
  have B2 : Blk w2 (w.heap.size + 1) 86 #[.func (.func 197) #[] #[p1]] := by rw [h2, ← s1]; exact Blk.new _ _ _
  have B3 : Blk w3 (w.heap.size + 1 + 1) 3 #[.int .i64 ((0 : Nat) : Int)] := by rw [h3, ← s2]; exact Blk.new _ _ _
  have B4 : Blk w4 (w.heap.size + 1 + 1 + 1) 3 #[.int .i64 (-1)] := by rw [h4, ← s3]; exact Blk.new _ _ _
  have B5 : Blk w5 (w.heap.size + 1 + 1 + 1 + 1) 3 #[.int .i64 0] := by rw [h5, ← s4]; exact Blk.new _ _ _
  have B6 : Blk w6 (w.heap.size + 1 + 1 + 1 + 1 + 1) 125 #[.func (.func 218) #[] #[.pointer (some ⟨w.heap.size + 1 + 1 + 1 + 1, 0, none⟩), .pointer (some ⟨w.heap.size + 1 + 1 + 1, 0, none⟩), .pointer (some ⟨w.heap.size + 1 + 1, 0, none⟩), .pointer (some ⟨w.heap.size, 0, none⟩), .pointer (some ⟨w.heap.size + 1, 0, none⟩), .pointer (some ⟨w.heap.size + 1 + 1 + 1 + 1 + 1, 0, none⟩)]] := by rw [h6, ← s5]; exact Blk.new _ _ _
  have e02 := e01.trans e12
  have e26 := e23.trans (e34.trans (e45.trans e56))
  refine (firstSi_any v l P Hgr w2 (w.heap.size + 1 + 1 + 1 + 1) (w.heap.size + 1 + 1 + 1) (w.heap.size + 1 + 1) w.heap.size (w.heap.size + 1) (w.heap.size + 1 + 1 + 1 + 1 + 1) (by omega) (by omega) (by omega) (by omega) (by omega) (by omega) (by omega) (by omega) (by omega) p1 p2 (fun W hW => ((B1.ext e12).ext hW).cell (i := 0) rfl) (fun W hW => (B2.ext hW).cell (i := 0) rfl) (Lib.hid fun W hW => HH.out.ext (e02.trans hW)) (fun W b hW hb => HPP.out W b (e02.trans hW) hb) (ord l + 1) 0 0 0 w6 (0, -1) 0 (by omega) (by omega) (by decide) (by omega) (by simp) (by simp) e26 (B3.ext (e34.trans (e45.trans e56))) (B4.ext (e45.trans e56)) (B5.ext e56) B6).mono ?_
  rintro e w7 ⟨rfl, c7, hB7, hS7, hC7, hF7, -, -⟩
  have hc0 : (cnt 0) = 0 := cnt_zero
  have hfin : (fsI P (ord l) (ord l + 1) 0 0 0 (0, -1)).1 = fsS P (ord l) (ord l + 1) 0 0 := by
    have := He.out
    rw [hc0] at this
    rw [this, if_pos (by show (-1 : Int) < _; omega)]
  rw [hfin] at hB7
  have hx7 := hB7.cell (i := 0) (v := .int .i64 (fsS P (ord l) (ord l + 1) 0 0 : Nat)) rfl
  have hy7 := hC7.cell (i := 0) (v := .int .i64 c7) rfl
  have hE7 : Ext w w7 := hF7.ext (e02.trans e26) (by rintro k (rfl | rfl | rfl) <;> omega)
  have kx := fun U => cell_in hx7 _ (lat_ext w7 U)
  have ky := fun U => cell_in hy7 _ (lat_ext w7 U)
  have hE := Ext.refl w7
  clear hfin hc0 hx7 hy7 s1 s2 s3 s4 s5
  go_wp2_with fail
  (refine wp_region_lat (w7) (by kernel_rfl) (by kernel_rfl) hE ?_); (repeat (go_big_quiet_step (first | fail))); (refine wpQuiet_nil ?_); (intro W hE'); (replace hE := lat_of hE'); (clear hE')
  go_wp2_with fail
  exact bodyPost_ret (v := .tuple #[.int .i64 (fsS P (ord l) (ord l + 1) 0 0 : Nat), .int .i64 c7]) (by simp [results, Try.results163, go_sem]) rfl ⟨_, rfl, hE7.trans hE⟩
theorem si1_any (v : Value) (l : List Int) (b bG : Nat) (w : World) (hG : ∀ W, Ext w W → W.cell? ⟨bG, 0, none⟩ = some v) (h : Ints w v l) :
    Calls Try.prog 197 #[.int .i64 b, .pointer (some ⟨bG, 0, none⟩)] w fun e w' => e = .returned (.bool (sidP l b)) ∧ Ext w w' := by
  have kG := hG _ (Ext.refl w)
  have hc := IsSidon_any v l (b : Int) w h
  clear hG h
  go_enter Try.func197, Try.ntmps197
  go_wp2_with fail
  refine hc.mono ?_
  rintro e w1 ⟨rfl, hE1⟩
  go_wp2_with fail
  go_ret
  exact ⟨rfl, hE1⟩
theorem LargestSidon_any (v : Value) (l : List Int) (w : World) (h : Ints w v l) :
    Calls Try.prog 117 #[.agg #[v]] w fun e w' => e = .returned (.tuple #[.int .i64 (lgV (sidP l) l 13 : Nat), .bool (lgB l 13)]) ∧ Ext w w' := by
  obtain ⟨wb, hwb⟩ : ∃ wb, wb = w.alloc (.cells #[v] 31) := ⟨_, rfl⟩
  have hE0 := (Ext.refl w).alloc (.cells #[v] 31)
  have hb := box_cell w v 31
  rw [← hwb] at hE0 hb
  have hg : ∀ W, Ext wb W → Ints W v l := fun W hW => h.ext (hE0.trans hW)
  have hE := Ext.refl wb
  have Hsz : Hid (w.heap.size + 1 = wb.heap.size) := Lib.hid (by rw [hwb]; simp [go_sem])
  have Hwb := Lib.hid hwb
  clear hwb h
  have hbx := hb wb hE
  have hmf : ∀ (fn : Fn) (first cap : Array Value) (w : World), (Instr.makeFunc fn first cap).run Try.prog w = .ok (.func fn first cap) w := fun _ _ _ _ => rfl
  have cG := IsGroup_any v l wb (hg _ hE)
  cases hgr : isGrp l
  · have hB : lgB l 13 = false := by unfold lgB; rw [hgr]; rfl
    have Hs := Lib.hid (And.intro hB (lg_no (P := sidP l) hB))
    rw [hgr] at cG
    clear hB
    go_enter Try.func117, Try.ntmps117
    go_wp2_with fail
    rw [← Hwb.out]
    refine cG.mono ?_
    rintro e w1 ⟨rfl, hE1⟩
    go_wp2_with fail
    exact bodyPost_ret (v := .tuple #[.int .i64 0, .bool false]) (by simp [results, Try.results117, go_sem]) rfl ⟨by rw [Hs.out.1, Hs.out.2]; rfl, hE0.trans hE1⟩
  rw [hgr] at cG
  have Hgr := Lib.hid hgr
  have hob := ord_bd hgr
  have cO := fun W (hW : Ext wb W) => OrderOf_grp v l W (hg _ hW) Hgr
  by_cases hm : ord l ≤ 13
  rotate_left
  · have hB : lgB l 13 = false := by unfold lgB; rw [hgr]; simpa using hm
    have Hs := Lib.hid (And.intro hB (lg_no (P := sidP l) hB))
    clear hB
    go_enter Try.func117, Try.ntmps117
    go_wp2_with fail
    rw [← Hwb.out]
    refine cG.mono ?_
    rintro e w1 ⟨rfl, hE1⟩
    have hb1 := hb w1 hE1
    go_wp2_with (refine (cO _ hE1).mono ?_; rintro e w2 ⟨rfl, hE2⟩)
    exact bodyPost_ret (v := .tuple #[.int .i64 0, .bool false]) (by simp [results, Try.results117, go_sem]) rfl ⟨by rw [Hs.out.1, Hs.out.2]; rfl, hE0.trans (hE1.trans hE2)⟩
  have hB : lgB l 13 = true := by unfold lgB; rw [hgr]; simpa using hm
  have Hs := Lib.hid (And.intro hB (lg_yes (P := sidP l) hB))
  have cF := fun W (hW : Ext wb W) => firstSi_fn v l (sidP l) Hgr W (hg W hW) (.pointer (some ⟨w.heap.size, 0, none⟩)) (.pointer none) (fun W' b hW' hb' => si1_any v l b w.heap.size W' (fun X hX => hb X (hW.trans (hW'.trans hX))) (hg W' (hW.trans hW')))
  obtain ⟨R, hR⟩ : ∃ R, R = fsS (sidP l) (ord l) (ord l + 1) 0 0 := ⟨_, rfl⟩
  rw [← hR] at cF Hs
  clear hB hgr hR
  go_enter Try.func117, Try.ntmps117
  go_wp2_with fail
  rw [← Hwb.out]
  refine cG.mono ?_
  rintro e w1 ⟨rfl, hE1⟩
  have hb1 := hb w1 hE1
  go_wp2_with (go_at_call 114; refine (cO _ hE1).mono ?_; rintro e w2 ⟨rfl, hE2⟩; have hE12 := hE1.trans hE2; have hb2 := hb w2 hE12)
  refine (cF _ hE12).mono ?_
  rintro e w3 ⟨c, rfl, hE3⟩
  go_wp2_with fail
  exact bodyPost_ret (v := .tuple #[.int .i64 R, .bool true]) (by simp [results, Try.results117, go_sem]) rfl ⟨by rw [Hs.out.1, Hs.out.2], hE0.trans (hE12.trans hE3)⟩
end Go.Zz
