/- The search for a first largest set: the program's closures. -/
import Derived.Test.YtgmbjfjihhdenaaGr6
import Derived.Test.YtgmbjfjihhdenaaGr11
import Derived.Deep.RegionHeld3
import Derived.Laws.EntriesVeiled
import Derived.Test.YtgmbjfjihhdenaaGr10
namespace Go.Zz
open Go.RowKit Go.Proofs
set_option maxHeartbeats 2000000
set_option maxRecDepth 4000

/-- w' is w with new blocks, and writes to the blocks of S alone -/
structure Fw (S : Nat → Prop) (w w' : World) : Prop where
  os : w'.os = w.os
  tape : w'.tape = w.tape
  output : w'.output = w.output
  size : w.heap.size ≤ w'.heap.size
  block : ∀ k, k < w.heap.size → ¬ S k → w'.heap[k]? = w.heap[k]?
theorem Fw.refl (S : Nat → Prop) (w : World) : Fw S w w := ⟨rfl, rfl, rfl, Nat.le_refl _, fun _ _ _ => rfl⟩
theorem Fw.trans {S : Nat → Prop} {w w1 w2 : World} (h : Fw S w w1) (k : Fw S w1 w2) : Fw S w w2 :=
  ⟨k.os.trans h.os, k.tape.trans h.tape, k.output.trans h.output, Nat.le_trans h.size k.size, fun i hi hs => (k.block i (Nat.lt_of_lt_of_le hi h.size) hs).trans (h.block i hi hs)⟩
theorem Ext.fw {w w' : World} (h : Ext w w') (S : Nat → Prop) : Fw S w w' := ⟨h.os, h.tape, h.output, h.size, fun k hk _ => h.block k hk⟩
theorem fw_set {S : Nat → Prop} {b : Nat} (h : S b) (w : World) (i : Nat) (v : Value) : Fw S w (w.setCell ⟨b, i, none⟩ v) :=
  ⟨rfl, rfl, rfl, by simp, fun k _ hk => Below.heap_setCell _ _ _ _ (fun e => hk (by rw [e]; exact h))⟩
theorem Fw.ext {S : Nat → Prop} {w0 w w' : World} (h : Fw S w w') (hE : Ext w0 w) (hS : ∀ k, S k → w0.heap.size ≤ k) : Ext w0 w' := by
  have hs := hE.size
  refine ⟨h.os.trans hE.os, h.tape.trans hE.tape, h.output.trans hE.output, Nat.le_trans hs h.size, fun k hk => ?_⟩
  rw [h.block k (Nat.lt_of_lt_of_le hk hs) fun e => by have := hS k e; omega]
  exact hE.block k hk
theorem Fw.blk {S : Nat → Prop} {w w' : World} (h : Fw S w w') {c : Nat} {T : TypeId} {cs : Array Value} (hB : Blk w c T cs) (hc : ¬ S c) : Blk w' c T cs := by
  unfold Blk; rw [h.block c hB.lt hc]; exact hB
/-- three boxes of ints -/
def S3 (a b c : Nat) (k : Nat) : Prop := k = a ∨ k = b ∨ k = c

theorem firstCl_any (v : Value) (l : List Int) (P : Nat → Bool) (Hgr : Hid (isGrp l = true)) (W0 : World) (bC bS bB bG bI bT : Nat) (hCS : bC ≠ bS) (hCB : bC ≠ bB) (hSB : bS ≠ bB) (hTC : bT ≠ bC) (hTS : bT ≠ bS) (hTB : bT ≠ bB) (h0C : W0.heap.size ≤ bC) (h0S : W0.heap.size ≤ bS) (h0B : W0.heap.size ≤ bB)
    (p1 p2 : Value) (HG : ∀ W, Ext W0 W → W.cell? ⟨bG, 0, none⟩ = some v) (HF : ∀ W, Ext W0 W → W.cell? ⟨bI, 0, none⟩ = some (.func (.func 164) #[] #[p1, p2])) (HI : Hid (∀ W, Ext W0 W → Ints W v l))
    (HP : ∀ W b, Ext W0 W → b < 2 ^ 24 → Calls Try.prog 164 #[.int .i64 (b : Nat), p1, p2] W fun e w' => e = .returned (.bool (P b)) ∧ Ext W w') :
    ∀ (f b n fr : Nat) (w : World) (s : Nat × Int) (c : Int), ord l < fr + f → fr ≤ ord l → b < 2 ^ 24 → n ≤ fr → -1 ≤ s.2 → s.2 ≤ 24 → Ext W0 w → Blk w bB 3 #[.int .i64 s.1] → Blk w bS 3 #[.int .i64 s.2] → Blk w bC 3 #[.int .i64 c] →
    Blk w bT 125 #[.func (.func 218) #[] #[.pointer (some ⟨bC, 0, none⟩), .pointer (some ⟨bS, 0, none⟩), .pointer (some ⟨bB, 0, none⟩), .pointer (some ⟨bG, 0, none⟩), .pointer (some ⟨bI, 0, none⟩), .pointer (some ⟨bT, 0, none⟩)]] →
    Calls Try.prog 218 #[.int .i64 b, .int .i64 n, .int .i64 fr, .pointer (some ⟨bC, 0, none⟩), .pointer (some ⟨bS, 0, none⟩), .pointer (some ⟨bB, 0, none⟩), .pointer (some ⟨bG, 0, none⟩), .pointer (some ⟨bI, 0, none⟩), .pointer (some ⟨bT, 0, none⟩)] w fun e w' =>
      e = .returned (.tuple #[]) ∧ ∃ c', Blk w' bB 3 #[.int .i64 (fsI P (ord l) f b n fr s).1] ∧ Blk w' bS 3 #[.int .i64 (fsI P (ord l) f b n fr s).2] ∧ Blk w' bC 3 #[.int .i64 c'] ∧ Fw (S3 bC bS bB) w w' ∧ -1 ≤ (fsI P (ord l) f b n fr s).2 ∧ (fsI P (ord l) f b n fr s).2 ≤ 24 := by
  intro f
  induction f with
  | zero => intro b n fr w s c hf hfr; omega
  | succ f ih =>
    intro b n fr w s c hf hfr hb24 hn hs1 hs2 hE0 hB hS hC hT
    have hob := ord_bd Hgr.out
    have Hih := Lib.hid ih
    clear ih
    obtain ⟨c1, hc1⟩ : ∃ c1, c1 = wrap64 (c + 1) := ⟨_, rfl⟩
    have kc := hC.cell (i := 0) (v := .int .i64 c) rfl
    have fc := hC.free 0
    have B1 : Blk (w.setCell ⟨bC, 0, none⟩ (.int .i64 (wrap64 (c + 1)))) bB 3 #[.int .i64 s.1] := hB.other (by simpa using hCB.symm) _
    have S1 : Blk (w.setCell ⟨bC, 0, none⟩ (.int .i64 (wrap64 (c + 1)))) bS 3 #[.int .i64 s.2] := hS.other (by simpa using hCS.symm) _
    have C1 : Blk (w.setCell ⟨bC, 0, none⟩ (.int .i64 (wrap64 (c + 1)))) bC 3 #[.int .i64 (wrap64 (c + 1))] := hC.set 0 _
    have F1 : Fw (S3 bC bS bB) w (w.setCell ⟨bC, 0, none⟩ (.int .i64 (wrap64 (c + 1)))) := fw_set (Or.inl rfl) w 0 _
    have ks1 := S1.cell (i := 0) (v := .int .i64 s.2) rfl
    have kb1 := B1.cell (i := 0) (v := .int .i64 s.1) rfl
    have fb1 := B1.free 0
    have hS3 : ∀ k, S3 bC bS bB k → W0.heap.size ≤ k := by rintro k (rfl | rfl | rfl) <;> assumption
    have hT3 : ¬ S3 bC bS bB bT := by rintro (h | h | h) <;> contradiction
    by_cases hq : s.2 < (n : Int)
    · have B2 : Blk ((w.setCell ⟨bC, 0, none⟩ (.int .i64 (wrap64 (c + 1)))).setCell ⟨bB, 0, none⟩ (.int .i64 b)) bB 3 #[.int .i64 b] := B1.set 0 _
      have S2 : Blk ((w.setCell ⟨bC, 0, none⟩ (.int .i64 (wrap64 (c + 1)))).setCell ⟨bB, 0, none⟩ (.int .i64 b)) bS 3 #[.int .i64 s.2] := S1.other (by simpa using hSB) _
      have C2 : Blk ((w.setCell ⟨bC, 0, none⟩ (.int .i64 (wrap64 (c + 1)))).setCell ⟨bB, 0, none⟩ (.int .i64 b)) bC 3 #[.int .i64 (wrap64 (c + 1))] := C1.other (by simpa using hCB) _
      have ks2 := S2.cell (i := 0) (v := .int .i64 s.2) rfl
      have fs2 := S2.free 0
      have s0 := fsIto_start (P := P) (N := ord l) (f := f) (b := b) (n := n) (fr := fr) (s := s)
      rw [if_pos hq] at s0
      have HB0 : Hid (Blk (((w.setCell ⟨bC, 0, none⟩ (.int .i64 (wrap64 (c + 1)))).setCell ⟨bB, 0, none⟩ (.int .i64 b)).setCell ⟨bS, 0, none⟩ (.int .i64 n)) bB 3 #[.int .i64 (fsIto P (ord l) f b n fr s fr).1]) := Lib.hid (by rw [s0]; exact B2.other (by simpa using hSB.symm) _)
      have HS0 : Hid (Blk (((w.setCell ⟨bC, 0, none⟩ (.int .i64 (wrap64 (c + 1)))).setCell ⟨bB, 0, none⟩ (.int .i64 b)).setCell ⟨bS, 0, none⟩ (.int .i64 n)) bS 3 #[.int .i64 (fsIto P (ord l) f b n fr s fr).2]) := Lib.hid (by rw [s0]; exact S2.set 0 _)
      have HC0 : Hid (Blk (((w.setCell ⟨bC, 0, none⟩ (.int .i64 (wrap64 (c + 1)))).setCell ⟨bB, 0, none⟩ (.int .i64 b)).setCell ⟨bS, 0, none⟩ (.int .i64 n)) bC 3 #[.int .i64 (wrap64 (c + 1))]) := Lib.hid (C2.other (by simpa using hCS) _)
      have HF0 : Hid (Fw (S3 bC bS bB) w (((w.setCell ⟨bC, 0, none⟩ (.int .i64 (wrap64 (c + 1)))).setCell ⟨bB, 0, none⟩ (.int .i64 b)).setCell ⟨bS, 0, none⟩ (.int .i64 n))) := Lib.hid ((F1.trans (fw_set (Or.inr (Or.inr rfl)) _ 0 _)).trans (fw_set (Or.inr (Or.inl rfl)) _ 0 _))
      have Hb0 : Hid (-1 ≤ (fsIto P (ord l) f b n fr s fr).2 ∧ (fsIto P (ord l) f b n fr s fr).2 ≤ 24) := Lib.hid (by rw [s0]; simp only; omega)
      clear s0 B1 S1 C1 F1 B2 S2 C2 hB hS hC hc1
      go_enter Try.func218, Try.ntmps218
      go_wp2_with fail
      clear kc fc ks1 kb1 fb1 ks2 fs2 hq
      go_loopw [12] (fun xv wr => ∃ (k : Nat) (c' : Int), fr ≤ k ∧ k ≤ ord l ∧ xv = .int .i64 k ∧ Blk wr bB 3 #[.int .i64 (fsIto P (ord l) f b n fr s k).1] ∧ Blk wr bS 3 #[.int .i64 (fsIto P (ord l) f b n fr s k).2] ∧ Blk wr bC 3 #[.int .i64 c'] ∧ Fw (S3 bC bS bB) w wr ∧ -1 ≤ (fsIto P (ord l) f b n fr s k).2 ∧ (fsIto P (ord l) f b n fr s k).2 ≤ 24) (fun x _ => ord l - (intOf x).toNat)
      case atStart => exact ⟨fr, _, by omega, by omega, rfl, HB0.out, HS0.out, HC0.out, HF0.out, Hb0.out.1, Hb0.out.2⟩
      case round =>
        obtain ⟨k, c', hk1, hk2, rfl, hB, hS, hC, hF, hb1, hb2⟩ := hrel
        clear HB0 HS0 HC0 HF0 Hb0
        have hEr := hF.ext hE0 hS3
        have hTr := hF.blk hT hT3
        obtain ⟨z, hz⟩ : ∃ z, z = fsIto P (ord l) f b n fr s k := ⟨_, rfl⟩
        rw [← hz] at hB hS hb1 hb2
        have HB := Lib.hid hB
        have HS := Lib.hid hS
        have HC := Lib.hid hC
        have HFw := Lib.hid hF
        clear hB hS hC hF
        by_cases hlt : k < ord l
        · have hk24 : k < 24 := by omega
          have hs1' := ishl_one (n := k) (by omega)
          have hs2' := ior_pw hb24 hk24
          have hbk : b ||| 2 ^ k < 2 ^ 24 := Nat.or_lt_two_pow hb24 (Nat.pow_lt_pow_right (by omega) hk24)
          cases hP : P (b ||| 2 ^ k)
          · have Hn : Hid (fsIto P (ord l) f b n fr s (k + 1) = z) := Lib.hid (by rw [fsIto_no hP, hz])
            have hcP := fun W (hW : Ext wr W) => HP W (b ||| 2 ^ k) (hEr.trans hW) hbk
            rw [hP] at hcP
            clear hz hP
            go_wp2_with (first | (go_at_call 114; refine (OrderOf_grp _ _ _ (HI.out _ hEr) Hgr).mono ?_; rintro e1 w1 ⟨rfl, hE1⟩; have hE01 := hEr.trans hE1) | (go_at_call 164; refine (hcP _ hE1).mono ?_; rintro e2 w2 ⟨rfl, hE2⟩; have hE12 := hE1.trans hE2))
            go_roundw
            case rel => exact ⟨k + 1, c', by omega, by omega, by go_num, by rw [Hn.out]; exact HB.out.ext hE12, by rw [Hn.out]; exact HS.out.ext hE12, HC.out.ext hE12, HFw.out.trans (hE12.fw _), by rw [Hn.out]; exact hb1, by rw [Hn.out]; exact hb2⟩
            case measure => (simp [intOf]; omega)
          · have Hn : Hid (fsIto P (ord l) f b n fr s (k + 1) = fsI P (ord l) f (b ||| 2 ^ k) (n + 1) (k + 1) z) := Lib.hid (by rw [fsIto_yes hlt hk1 hP, hz])
            have hcP := fun W (hW : Ext wr W) => HP W (b ||| 2 ^ k) (hEr.trans hW) hbk
            rw [hP] at hcP
            have hcR := fun W (hE : Ext wr W) => Hih.out (b ||| 2 ^ k) (n + 1) (k + 1) W z c' (by omega) (by omega) hbk (by omega) hb1 hb2 (hEr.trans hE) (HB.out.ext hE) (HS.out.ext hE) (HC.out.ext hE) (hTr.ext hE)
            rw [show ((n + 1 : Nat) : Int) = (n : Int) + 1 by omega, show ((k + 1 : Nat) : Int) = (k : Int) + 1 by omega] at hcR
            have kt : ∀ W, Ext wr W → W.cell? ⟨bT, 0, none⟩ = some (.func (.func 218) #[] #[.pointer (some ⟨bC, 0, none⟩), .pointer (some ⟨bS, 0, none⟩), .pointer (some ⟨bB, 0, none⟩), .pointer (some ⟨bG, 0, none⟩), .pointer (some ⟨bI, 0, none⟩), .pointer (some ⟨bT, 0, none⟩)]) := fun W hW => (hTr.ext hW).cell (i := 0) rfl
            clear hz hP
            go_wp2_with (first | (go_at_call 114; refine (OrderOf_grp _ _ _ (HI.out _ hEr) Hgr).mono ?_; rintro e1 w1 ⟨rfl, hE1⟩; have hE01 := hEr.trans hE1) | (go_at_call 164; refine (hcP _ hE1).mono ?_; rintro e2 w2 ⟨rfl, hE2⟩; have hE12 := hE1.trans hE2) | (go_at_call 218; refine (hcR _ hE12).mono ?_; rintro e3 w3 ⟨rfl, c3, hB3, hS3', hC3, hF3, hb3, hb4⟩))
            go_roundw
            case rel => exact ⟨k + 1, c3, by omega, by omega, by go_num, by rw [Hn.out]; exact hB3, by rw [Hn.out]; exact hS3', hC3, HFw.out.trans ((hE12.fw _).trans hF3), by rw [Hn.out]; exact hb3, by rw [Hn.out]; exact hb4⟩
            case measure => (simp [intOf]; omega)
        · have hkl : k = ord l := by omega
          have Hn : Hid (fsI P (ord l) (f + 1) b n fr s = z) := Lib.hid (by rw [fsI_end hob.2, hz, hkl])
          clear hz
          go_wp2_with (go_at_call 114; refine (OrderOf_grp _ _ _ (HI.out _ hEr) Hgr).mono ?_; rintro e1 w1 ⟨rfl, hE1⟩; have hE01 := hEr.trans hE1)
          go_end0
          exact ⟨rfl, c', by rw [Hn.out]; exact HB.out.ext hE1, by rw [Hn.out]; exact HS.out.ext hE1, HC.out.ext hE1, HFw.out.trans (hE1.fw _), by rw [Hn.out]; exact hb1, by rw [Hn.out]; exact hb2⟩
    · have s0 := fsIto_start (P := P) (N := ord l) (f := f) (b := b) (n := n) (fr := fr) (s := s)
      rw [if_neg hq] at s0
      have HB0 : Hid (Blk (w.setCell ⟨bC, 0, none⟩ (.int .i64 (wrap64 (c + 1)))) bB 3 #[.int .i64 (fsIto P (ord l) f b n fr s fr).1]) := Lib.hid (by rw [s0]; exact B1)
      have HS0 : Hid (Blk (w.setCell ⟨bC, 0, none⟩ (.int .i64 (wrap64 (c + 1)))) bS 3 #[.int .i64 (fsIto P (ord l) f b n fr s fr).2]) := Lib.hid (by rw [s0]; exact S1)
      have HC0 := Lib.hid C1
      have HF0 := Lib.hid F1
      have Hb0 : Hid (-1 ≤ (fsIto P (ord l) f b n fr s fr).2 ∧ (fsIto P (ord l) f b n fr s fr).2 ≤ 24) := Lib.hid (by rw [s0]; exact ⟨hs1, hs2⟩)
      clear s0 B1 S1 C1 F1 hB hS hC hc1
      go_enter Try.func218, Try.ntmps218
      go_wp2_with fail
      clear kc fc ks1 kb1 fb1 hq
      go_loopw [12] (fun xv wr => ∃ (k : Nat) (c' : Int), fr ≤ k ∧ k ≤ ord l ∧ xv = .int .i64 k ∧ Blk wr bB 3 #[.int .i64 (fsIto P (ord l) f b n fr s k).1] ∧ Blk wr bS 3 #[.int .i64 (fsIto P (ord l) f b n fr s k).2] ∧ Blk wr bC 3 #[.int .i64 c'] ∧ Fw (S3 bC bS bB) w wr ∧ -1 ≤ (fsIto P (ord l) f b n fr s k).2 ∧ (fsIto P (ord l) f b n fr s k).2 ≤ 24) (fun x _ => ord l - (intOf x).toNat)
      case atStart => exact ⟨fr, _, by omega, by omega, rfl, HB0.out, HS0.out, HC0.out, HF0.out, Hb0.out.1, Hb0.out.2⟩
      case round =>
        obtain ⟨k, c', hk1, hk2, rfl, hB, hS, hC, hF, hb1, hb2⟩ := hrel
        clear HB0 HS0 HC0 HF0 Hb0
        have hEr := hF.ext hE0 hS3
        have hTr := hF.blk hT hT3
        obtain ⟨z, hz⟩ : ∃ z, z = fsIto P (ord l) f b n fr s k := ⟨_, rfl⟩
        rw [← hz] at hB hS hb1 hb2
        have HB := Lib.hid hB
        have HS := Lib.hid hS
        have HC := Lib.hid hC
        have HFw := Lib.hid hF
        clear hB hS hC hF
        by_cases hlt : k < ord l
        · have hk24 : k < 24 := by omega
          have hs1' := ishl_one (n := k) (by omega)
          have hs2' := ior_pw hb24 hk24
          have hbk : b ||| 2 ^ k < 2 ^ 24 := Nat.or_lt_two_pow hb24 (Nat.pow_lt_pow_right (by omega) hk24)
          cases hP : P (b ||| 2 ^ k)
          · have Hn : Hid (fsIto P (ord l) f b n fr s (k + 1) = z) := Lib.hid (by rw [fsIto_no hP, hz])
            have hcP := fun W (hW : Ext wr W) => HP W (b ||| 2 ^ k) (hEr.trans hW) hbk
            rw [hP] at hcP
            clear hz hP
            go_wp2_with (first | (go_at_call 114; refine (OrderOf_grp _ _ _ (HI.out _ hEr) Hgr).mono ?_; rintro e1 w1 ⟨rfl, hE1⟩; have hE01 := hEr.trans hE1) | (go_at_call 164; refine (hcP _ hE1).mono ?_; rintro e2 w2 ⟨rfl, hE2⟩; have hE12 := hE1.trans hE2))
            go_roundw
            case rel => exact ⟨k + 1, c', by omega, by omega, by go_num, by rw [Hn.out]; exact HB.out.ext hE12, by rw [Hn.out]; exact HS.out.ext hE12, HC.out.ext hE12, HFw.out.trans (hE12.fw _), by rw [Hn.out]; exact hb1, by rw [Hn.out]; exact hb2⟩
            case measure => (simp [intOf]; omega)
          · have Hn : Hid (fsIto P (ord l) f b n fr s (k + 1) = fsI P (ord l) f (b ||| 2 ^ k) (n + 1) (k + 1) z) := Lib.hid (by rw [fsIto_yes hlt hk1 hP, hz])
            have hcP := fun W (hW : Ext wr W) => HP W (b ||| 2 ^ k) (hEr.trans hW) hbk
            rw [hP] at hcP
            have hcR := fun W (hE : Ext wr W) => Hih.out (b ||| 2 ^ k) (n + 1) (k + 1) W z c' (by omega) (by omega) hbk (by omega) hb1 hb2 (hEr.trans hE) (HB.out.ext hE) (HS.out.ext hE) (HC.out.ext hE) (hTr.ext hE)
            rw [show ((n + 1 : Nat) : Int) = (n : Int) + 1 by omega, show ((k + 1 : Nat) : Int) = (k : Int) + 1 by omega] at hcR
            have kt : ∀ W, Ext wr W → W.cell? ⟨bT, 0, none⟩ = some (.func (.func 218) #[] #[.pointer (some ⟨bC, 0, none⟩), .pointer (some ⟨bS, 0, none⟩), .pointer (some ⟨bB, 0, none⟩), .pointer (some ⟨bG, 0, none⟩), .pointer (some ⟨bI, 0, none⟩), .pointer (some ⟨bT, 0, none⟩)]) := fun W hW => (hTr.ext hW).cell (i := 0) rfl
            clear hz hP
            go_wp2_with (first | (go_at_call 114; refine (OrderOf_grp _ _ _ (HI.out _ hEr) Hgr).mono ?_; rintro e1 w1 ⟨rfl, hE1⟩; have hE01 := hEr.trans hE1) | (go_at_call 164; refine (hcP _ hE1).mono ?_; rintro e2 w2 ⟨rfl, hE2⟩; have hE12 := hE1.trans hE2) | (go_at_call 218; refine (hcR _ hE12).mono ?_; rintro e3 w3 ⟨rfl, c3, hB3, hS3', hC3, hF3, hb3, hb4⟩))
            go_roundw
            case rel => exact ⟨k + 1, c3, by omega, by omega, by go_num, by rw [Hn.out]; exact hB3, by rw [Hn.out]; exact hS3', hC3, HFw.out.trans ((hE12.fw _).trans hF3), by rw [Hn.out]; exact hb3, by rw [Hn.out]; exact hb4⟩
            case measure => (simp [intOf]; omega)
        · have hkl : k = ord l := by omega
          have Hn : Hid (fsI P (ord l) (f + 1) b n fr s = z) := Lib.hid (by rw [fsI_end hob.2, hz, hkl])
          clear hz
          go_wp2_with (go_at_call 114; refine (OrderOf_grp _ _ _ (HI.out _ hEr) Hgr).mono ?_; rintro e1 w1 ⟨rfl, hE1⟩; have hE01 := hEr.trans hE1)
          go_end0
          exact ⟨rfl, c', by rw [Hn.out]; exact HB.out.ext hE1, by rw [Hn.out]; exact HS.out.ext hE1, HC.out.ext hE1, HFw.out.trans (hE1.fw _), by rw [Hn.out]; exact hb1, by rw [Hn.out]; exact hb2⟩
end Go.Zz

/- Longest sequences no part of which has the sum zero: the program. -/
namespace Go.Zz
open Go.RowKit Go.Proofs
set_option maxHeartbeats 2000000
set_option maxRecDepth 8000

/-- a row of ints stays where a call writes into a box of slices alone -/
theorem Ints.fw {w w' : World} {v : Value} {l : List Int} {b : Nat} {T : TypeId} {ao : Option Addr} {n c : Nat} (h : Ints w v l) (hB : Blk w b T #[.slice ao n c]) (hF : Fw (fun k => k = b) w w') : Ints w' v l := by
  obtain ⟨a, k, rfl, h1, h2, h3⟩ := h
  refine ⟨a, k, rfl, h1, h2, fun i hi => ?_⟩
  obtain ⟨p, rfl, hc⟩ := h3 i hi
  refine ⟨p, rfl, ?_⟩
  have hlt := World.block_lt_of_cell? w _ hc
  have hne : (p.add i).block ≠ b := fun e => by
    have hB' : w.heap[b]? = some (.cells #[.slice ao n c] T (0, 0)) := hB
    have h0 := hc
    unfold World.cell? at h0
    rw [e, hB'] at h0
    simp only at h0
    split at h0
    · cases h0
    · cases hq : (p.add i).off with
      | zero => rw [hq] at h0; simp at h0
      | succ j => rw [hq] at h0; simp at h0
  rw [World.cell?_of_block (w := w) (hF.block _ hlt hne)]; exact hc
/-- the block of the best one so far -/
def Bx (b : Nat) (k : Nat) : Prop := k = b
theorem visit_any (X B : List Nat) (S : Int) (aoX aoB : Option Addr) (cX cB bB : Nat) (w : World) (hB : Blk w bB 22 #[.slice aoB B.length cB]) (hX : X.length ≤ 24) (hBl : B.length ≤ 24) :
    Calls Try.prog 194 #[.slice aoX X.length cX, .int .i64 S, .pointer (some ⟨bB, 0, none⟩)] w fun e w' => e = .returned (.tuple #[]) ∧ Blk w' bB 22 #[if B.length < X.length then .slice aoX X.length cX else .slice aoB B.length cB] ∧ Fw (Bx bB) w w' := by
  have k0 := hB.cell (i := 0) (v := .slice aoB B.length cB) rfl
  have f0 := hB.free 0
  by_cases hq : B.length < X.length
  · have hB2 : Blk (w.setCell ⟨bB, 0, none⟩ (.slice aoX X.length cX)) bB 22 #[.slice aoX X.length cX] := hB.set 0 _
    have hF := fw_set (S := Bx bB) rfl w 0 (.slice aoX X.length cX)
    have hqI : ((B.length : Nat) : Int) < ((X.length : Nat) : Int) := by omega
    have Hq := Lib.hid hq
    clear hB hq
    go_enter Try.func194, Try.ntmps194
    go_wp2_with fail
    go_end0
    exact ⟨rfl, hB2, hF⟩
  · have hqI : ¬ ((B.length : Nat) : Int) < ((X.length : Nat) : Int) := by omega
    have Hq := Lib.hid hq
    clear hq
    go_enter Try.func194, Try.ntmps194
    go_wp2_with fail
    go_end0
    exact ⟨rfl, hB, Fw.refl _ _⟩
/-- the term to go on from -/
def frm (X : List Nat) : Nat := if X.length = 0 then 1 else nthN X (X.length - 1)
theorem frm_snoc (X : List Nat) (k : Nat) : frm (X ++ [k]) = k := by
  unfold frm; simp [nthN, List.getD]
theorem zfI_in {l : List Int} (hg : isGrp l = true) (f : Nat) (X : List Nat) (S m : Nat) (b : List Nat) (hS : S < 2 ^ ord l) (h0 : S.testBit 0 = false) (hX : ∀ x ∈ X, x < ord l) (hl : X.length ≤ cnt S) (hb : b.length ≤ 24) : (zfI l f X S m b).length ≤ 24 := by
  rw [zfI_eq]
  split
  · exact (zfS_in hg f X S m hS h0 hX hl).2
  · exact hb
theorem zf_any (v : Value) (l : List Int) (Hgr : Hid (isGrp l = true)) (W0 : World) (bB : Nat) (h0B : W0.heap.size ≤ bB) (HI : Hid (∀ W, Ext W0 W → Ints W v l)) :
    ∀ (f : Nat) (X B : List Nat) (S m : Nat) (aoX aoB : Option Addr) (cX cB : Nat) (w : World), Ext W0 w → Ints w (.slice aoX X.length cX) (castL X) → Blk w bB 22 #[.slice aoB B.length cB] → Ints w (.slice aoB B.length cB) (castL B) → B.length ≤ 24 → S < 2 ^ ord l → S.testBit 0 = false → frm X = m → m ≤ ord l → ord l < cnt S + f → X.length ≤ cnt S → (∀ x ∈ X, x < ord l) →
    Calls Try.prog 193 #[.agg #[v], .slice aoX X.length cX, .int .i64 S, .func (.func 194) #[] #[.pointer (some ⟨bB, 0, none⟩)]] w fun e w' => e = .returned (.tuple #[]) ∧ ∃ ao c, Blk w' bB 22 #[.slice ao (zfI l f X S m B).length c] ∧ Ints w' (.slice ao (zfI l f X S m B).length c) (castL (zfI l f X S m B)) ∧ Fw (Bx bB) w w' := by
  intro f
  induction f with
  | zero => intro X B S m aoX aoB cX cB w hW hX hBk hIB hBl hS h0 hfr hm hf; have := cnt_ord Hgr.out hS; omega
  | succ f ih =>
    intro X B S m aoX aoB cX cB w hW hX hBk hIB hBl hS h0 hfr hm hf hXl hXo
    have hob := ord_bd Hgr.out
    have hp24 := pow_ord Hgr.out
    have hS24 : S < 2 ^ 24 := Nat.lt_of_lt_of_le hS hp24
    have hcS := cnt_le S
    have hX24 : X.length ≤ 24 := by omega
    obtain ⟨wb, hwb⟩ : ∃ wb, wb = w.alloc (.cells #[v] 31) := ⟨_, rfl⟩
    have hE0 : Ext w wb := by rw [hwb]; exact (Ext.refl _).alloc _
    have BG : Blk wb w.heap.size 31 #[v] := by rw [hwb]; exact Blk.new _ _ _
    have hne : w.heap.size ≠ bB := by have := hBk.lt; omega
    have Hwb := Lib.hid hwb
    have Hih := Lib.hid ih
    have hBk1 := hBk.ext hE0
    have hX1 := hX.ext hE0
    have hIB1 := hIB.ext hE0
    have hW1 := hW.trans hE0
    have HF0 := Lib.hid (hE0.fw (Bx bB))
    clear ih hX hBk hIB hwb hE0
    have He := Lib.hid (zfIto_end l f X S m B)
    have Hst := Lib.hid (zfIto_start l f X S m B)
    have cV := visit_any X B S aoX aoB cX cB bB wb hBk1 hX24 hBl
    have hS0 : ∀ k, Bx bB k → W0.heap.size ≤ k := fun k hk => by rw [hk]; exact h0B
    have HfK : Hid (∀ w1, Blk w1 bB 22 #[if B.length < X.length then .slice aoX X.length cX else .slice aoB B.length cB] → Fw (Bx bB) wb w1 → ∃ ao0 c0, Blk w1 bB 22 #[.slice ao0 (zfIto l f X S m B m).length c0] ∧ Ints w1 (.slice ao0 (zfIto l f X S m B m).length c0) (castL (zfIto l f X S m B m)) ∧ (zfIto l f X S m B m).length ≤ 24) := Lib.hid fun w1 hB1 hF1 => by
      rw [Hst.out]
      by_cases hq : B.length < X.length
      · rw [if_pos hq] at hB1
        rw [if_pos hq]
        exact ⟨aoX, cX, hB1, hX1.fw hBk1 hF1, hX24⟩
      · rw [if_neg hq] at hB1
        rw [if_neg hq]
        exact ⟨aoB, cB, hB1, hIB1.fw hBk1 hF1, hBl⟩
    by_cases hXe : X.length = 0
    · have Hm : Hid ((1 : Int) = (m : Int)) := Lib.hid (by rw [← hfr]; unfold frm; rw [if_pos hXe]; rfl)
      have hxI : ¬ (0 : Int) < ((X.length : Nat) : Int) := by omega
      clear hXe
      go_enter Try.func193, Try.ntmps193
      go_wp2_with fail
      rw [← Hwb.out]
      refine cV.mono ?_
      rintro e w1 ⟨rfl, hBv, hFv⟩
      obtain ⟨ao0, c0, hK0⟩ := HfK.out w1 hBv hFv
      have HK0 := Lib.hid hK0
      have HF1 := Lib.hid hFv
      clear hBv hFv hK0 cV HfK
      go_wp2_with fail
      obtain ⟨d17, hd17⟩ : ∃ d : Bool, d = decide (0 < X.length) := ⟨_, rfl⟩
      rw [← hd17]
      clear hd17 hxI
      go_loopw [9] (fun xv wr => ∃ (k : Nat) (ao : Option Addr) (c : Nat), m ≤ k ∧ k ≤ ord l ∧ xv = .int .i64 k ∧ Blk wr bB 22 #[.slice ao (zfIto l f X S m B k).length c] ∧ Ints wr (.slice ao (zfIto l f X S m B k).length c) (castL (zfIto l f X S m B k)) ∧ (zfIto l f X S m B k).length ≤ 24 ∧ Fw (Bx bB) wb wr) (fun xv _ => ord l - (intOf xv).toNat)
      case atStart => exact ⟨m, ao0, c0, Nat.le_refl _, hm, by first | rfl | rw [Hm.out], HK0.out.1, HK0.out.2.1, HK0.out.2.2, HF1.out⟩
      case round =>
        obtain ⟨k, aoR, cR, hk1, hk2, rfl, hBR, hIR, hRl, hF⟩ := hrel
        have hEr := hF.ext hW1 hS0
        have BGr := hF.blk BG hne
        have HXr := Lib.hid (hX1.fw hBk1 hF)
        have kG : ∀ W, Ext wr W → W.cell? ⟨w.heap.size, 0, none⟩ = some v := fun W hW => (BGr.ext hW).cell (i := 0) rfl
        have cO := OrderOf_grp v l wr (HI.out _ hEr) Hgr
        have hEr0 := Ext.refl wr
        have HFr := Lib.hid hF
        have HBR := Lib.hid hBR
        have HIR := Lib.hid hIR
        clear hF hBR hIR
        by_cases hlt : k < ord l
        · have hk24 : k < 24 := by omega
          have hN := nxS_lt Hgr.out hS hlt
          have hNc := nxS_more Hgr.out hS h0 hlt
          have hN24 : nxS l S k < 2 ^ 24 := Nat.lt_of_lt_of_le hN hp24
          have hsh := shiftF_bd Hgr.out S k
          have q1 := ishl_one (n := k) (by omega)
          have q2 : ior (S : Int) (shiftF l S k : Int) = ((S ||| shiftF l S k : Nat) : Int) := ior_nat (by omega) (by omega)
          have q3 : ior ((S ||| shiftF l S k : Nat) : Int) ((pw k : Nat) : Int) = ((nxS l S k : Nat) : Int) := ior_pw (Nat.or_lt_two_pow hS24 hsh) hk24
          have Hno := Lib.hid (fun h => zfIto_no (l := l) (f := f) (X := X) (S := S) (m := m) (k := k) (b := B) h)
          have Hye := Lib.hid (fun h => zfIto_yes (l := l) (f := f) (X := X) (S := S) (m := m) (k := k) (b := B) hk1 h)
          obtain ⟨N, hNd⟩ : ∃ N, N = nxS l S k := ⟨_, rfl⟩
          rw [← hNd] at hN hNc hN24 q3 Hno Hye
          have cS := fun W (hW : Ext wr W) => shift_any v l S k W (HI.out _ (hEr.trans hW)) Hgr hS24 hk24
          clear hNd
          go_wp2_with (go_at_call 114; refine cO.mono ?_; rintro e1 w1 ⟨rfl, hE1⟩)
          have hbx := fun U => kG _ (hE1.trans (lat_ext w1 U))
          have hE := Ext.refl w1
          (refine wp_region_lat (w1) (by kernel_rfl) (by kernel_rfl) hE ?_); (repeat (go_big_quiet_step (first | (go_at_call 153; exact Calls.lat (cS _ (hE1.trans (lat_ext w1 _))))))); (refine wpQuiet_nil ?_); (intro W hE'); (replace hE := lat_of hE'); (clear hE')
          rename World => w2
          have hE2 := hE1.trans hE
          clear hbx cS
          cases ht : N.testBit 0
          · have cI := fun W => in_val N 0 hN24 (by omega) W ht
            have hEW2 := hEr.trans hE2
            have BG2 := BGr.ext hE2
            have hkk : (X ++ [k]).length = X.length + 1 := by simp
            have hXo2 : ∀ x ∈ X ++ [k], x < ord l := by
              intro y hy; rw [List.mem_append, List.mem_singleton] at hy; rcases hy with hy | rfl
              · exact hXo y hy
              · exact hlt
            have hcR : ∀ W aoN cN, Ext w2 W → Ints W (.slice aoN (X.length + 1) cN) (castL (X ++ [k])) → Calls Try.prog 193 #[.agg #[v], .slice aoN (X.length + 1) cN, .int .i64 N, .func (.func 194) #[] #[.pointer (some ⟨bB, 0, none⟩)]] W fun e w' => e = .returned (.tuple #[]) ∧ ∃ ao c, Blk w' bB 22 #[.slice ao (zfIto l f X S m B (k + 1)).length c] ∧ Ints w' (.slice ao (zfIto l f X S m B (k + 1)).length c) (castL (zfIto l f X S m B (k + 1))) ∧ Fw (Bx bB) W w' := fun W aoN cN hW hI => by
              have q := Hih.out (X ++ [k]) (zfIto l f X S m B k) N k aoN aoR cN cR W (hEW2.trans hW) (by rw [hkk]; exact hI) (HBR.out.ext (hE2.trans hW)) (HIR.out.ext (hE2.trans hW)) hRl hN ht (frm_snoc X k) (by omega) (by omega) (by rw [hkk]; omega) hXo2
              rw [hkk, ← Hye.out ht] at q
              exact q
            have hRl2 : (zfIto l f X S m B (k + 1)).length ≤ 24 := by
              rw [Hye.out ht]; exact zfI_in Hgr.out f (X ++ [k]) N k _ hN ht hXo2 (by rw [hkk]; omega) hRl
            have HX2 := Lib.hid (fun W (hW : Ext w2 W) => HXr.out.ext (hE2.trans hW))
            have hln : (castL X).length + [(k : Int)].length ≤ 17592186044416 := by rw [castL_len]; simp; omega
            have kG2 : ∀ W, Ext w2 W → W.cell? ⟨w.heap.size, 0, none⟩ = some v := fun W hW => kG _ (hE2.trans hW)
            have hFw2 := Lib.hid (HFr.out.trans (hE2.fw (Bx bB)))
            clear ht hkk hXo2 kG hE1
            replace hE := Ext.refl w2
            go_wp2_with (go_at_call 129; refine (cI _).mono ?_; rintro e' w' ⟨rfl, hw'⟩; subst hw')
            first | (go_region_held3 (fun W => W.cell? ⟨w.heap.size, 0, none⟩ = some v) (first | exact hG5 | exact kG2 _ (by repeat (first | (with_reducible assumption) | (with_reducible exact Ext.refl _) | (with_reducible apply Ext.drew) | (with_reducible apply Ext.alloc) | (with_reducible (apply And.left; assumption))))) (first | (go_at_call 135; (with_reducible refine Calls.mono (Calls.sh (copyInts_any _ _ _ (HX2.out _ (by repeat (first | (with_reducible assumption) | (with_reducible exact Ext.refl _) | (with_reducible apply Ext.drew) | (with_reducible apply Ext.alloc) | (with_reducible (apply And.left; assumption))))))) ?_); rintro eC wC ⟨aoC, cC, rfl, hOC, hXC⟩; have hHC := Ext.trans (a := w2) (by repeat (first | (with_reducible assumption) | (with_reducible exact Ext.refl _) | (with_reducible apply Ext.drew) | (with_reducible apply Ext.alloc) | (with_reducible (apply And.left; assumption)))) hXC; have hOC2 := hOC.mono (show Ext w2 _ by repeat (first | (with_reducible assumption) | (with_reducible exact Ext.refl _) | (with_reducible apply Ext.drew) | (with_reducible apply Ext.alloc) | (with_reducible (apply And.left; assumption))))) | (go_at_call 193; (with_reducible refine Calls.mono (hcR _ _ _ (by repeat (first | (with_reducible assumption) | (with_reducible exact Ext.refl _) | (with_reducible apply Ext.drew) | (with_reducible apply Ext.alloc) | (with_reducible (apply And.left; assumption)))) (Own.ints (by repeat (first | (with_reducible exact hON) | (with_reducible apply Own.alloc) | (with_reducible apply Own.drew))))) ?_); rintro eF wF ⟨rfl, aoF, cF, hBF, hIF, hFF⟩; have hG5 := (hFF.blk (BG2.ext (by repeat (first | (with_reducible assumption) | (with_reducible exact Ext.refl _) | (with_reducible apply Ext.drew) | (with_reducible apply Ext.alloc) | (with_reducible (apply And.left; assumption))))) hne).cell (i := 0) (v := v) rfl) | (have hOq := hOC2; refine step_appendsE slI rfl _ _ rfl w2 w2 _ _ (castL X) [(k : Int)] (Or.inr (by first | exact hOq | exact hOq.alloc _ | exact (hOq.alloc _).drew)) (Blk.ints1 (T := 3) (by repeat (first | (with_reducible assumption) | (with_reducible exact Blk.new _ _ _) | ((with_reducible refine Blk.new' ?_); simp [go_sem]; done) | (with_reducible apply Blk.alloc) | (with_reducible apply Blk.drew) | (with_reducible refine Blk.ext ?_ hXC)))) (by repeat (first | (with_reducible assumption) | (with_reducible exact Ext.refl _) | (with_reducible apply Ext.drew) | (with_reducible apply Ext.alloc) | (with_reducible (apply And.left; assumption)))) hln rfl rfl ?_; intro vD wD hOD hXD hTD; obtain ⟨aoN, cN, rfl, hON, hEN⟩ := NxP.of hOD hXD))) | (fail "the region")
            all_goals
              go_wp2_with fail
              go_roundw
              case rel => exact ⟨k + 1, aoF, cF, by omega, by omega, by go_num, hBF, hIF, hRl2, hFw2.out.trans ((hEN.fw _).trans hFF)⟩
              case measure => (simp [intOf]; omega)
          · have cI := fun W => in_val N 0 hN24 (by omega) W ht
            have Hn := Lib.hid (Hno.out ht)
            clear ht
            go_wp2_with (go_at_call 129; refine (cI _).mono ?_; rintro e' w' ⟨rfl, hw'⟩; subst hw')
            go_roundw
            case rel => exact ⟨k + 1, aoR, cR, by omega, by omega, by go_num, by rw [Hn.out]; exact HBR.out.ext hE2, by rw [Hn.out]; exact HIR.out.ext hE2, by rw [Hn.out]; exact hRl, HFr.out.trans (hE2.fw _)⟩
            case measure => (simp [intOf]; omega)
        · have hkl : k = ord l := by omega
          have Hn := Lib.hid (show zfI l (f + 1) X S m B = zfIto l f X S m B k by rw [He.out, hkl])
          clear hkl
          go_wp2_with (go_at_call 114; refine cO.mono ?_; rintro e1 w1 ⟨rfl, hE1⟩)
          go_end0
          exact ⟨rfl, aoR, cR, by rw [Hn.out]; exact HBR.out.ext hE1, by rw [Hn.out]; exact HIR.out.ext hE1, HF0.out.trans (HFr.out.trans (hE1.fw _))⟩
    · have hxI : (0 : Int) < ((X.length : Nat) : Int) := by omega
      have hXl1 : X.length - 1 < X.length := by omega
      have Hlast : Hid (nthN X (X.length - 1) = m) := Lib.hid (by rw [← hfr]; unfold frm; rw [if_neg hXe])
      have Hm : Hid ((m : Int) = (m : Int)) := Lib.hid rfl
      clear hXe
      go_enter Try.func193, Try.ntmps193
      go_wp2_with fail
      rw [← Hwb.out]
      refine cV.mono ?_
      rintro e w1 ⟨rfl, hBv, hFv⟩
      obtain ⟨ao0, c0, hK0⟩ := HfK.out w1 hBv hFv
      obtain ⟨ao', c', adrX, hvX, hadrX, hcellX⟩ := (hX1.fw hBk1 hFv).nats
      have hix := ints_index (c := c') elI szI hadrX
      simp only [Value.slice.injEq] at hvX
      obtain ⟨rfl, -, rfl⟩ := hvX
      have ix1 : ∀ W, (Instr.indexAt 22 (.slice aoX X.length cX) (.int .i64 ((X.length : Int) - 1))).run Try.prog W = .ok (.pointer (some (adrX (X.length - 1)))) W := fun W => by rw [show ((X.length : Int) - 1) = ((X.length - 1 : Nat) : Int) by omega]; exact hix _ W hXl1
      have hck : w1.cell? (adrX (X.length - 1)) = some (.int .i64 (m : Int)) := by rw [← Hlast.out]; exact hcellX _ _ hXl1 (Ext.refl _)
      have HK0 := Lib.hid hK0
      have HF1 := Lib.hid hFv
      clear hBv hFv hK0 cV HfK hix hcellX hadrX
      go_wp2_with fail
      obtain ⟨d17, hd17⟩ : ∃ d : Bool, d = decide (0 < X.length) := ⟨_, rfl⟩
      rw [← hd17]
      clear hd17 hxI ix1 hck
      go_loopw [9] (fun xv wr => ∃ (k : Nat) (ao : Option Addr) (c : Nat), m ≤ k ∧ k ≤ ord l ∧ xv = .int .i64 k ∧ Blk wr bB 22 #[.slice ao (zfIto l f X S m B k).length c] ∧ Ints wr (.slice ao (zfIto l f X S m B k).length c) (castL (zfIto l f X S m B k)) ∧ (zfIto l f X S m B k).length ≤ 24 ∧ Fw (Bx bB) wb wr) (fun xv _ => ord l - (intOf xv).toNat)
      case atStart => exact ⟨m, ao0, c0, Nat.le_refl _, hm, by first | rfl | rw [Hm.out], HK0.out.1, HK0.out.2.1, HK0.out.2.2, HF1.out⟩
      case round =>
        obtain ⟨k, aoR, cR, hk1, hk2, rfl, hBR, hIR, hRl, hF⟩ := hrel
        have hEr := hF.ext hW1 hS0
        have BGr := hF.blk BG hne
        have HXr := Lib.hid (hX1.fw hBk1 hF)
        have kG : ∀ W, Ext wr W → W.cell? ⟨w.heap.size, 0, none⟩ = some v := fun W hW => (BGr.ext hW).cell (i := 0) rfl
        have cO := OrderOf_grp v l wr (HI.out _ hEr) Hgr
        have hEr0 := Ext.refl wr
        have HFr := Lib.hid hF
        have HBR := Lib.hid hBR
        have HIR := Lib.hid hIR
        clear hF hBR hIR
        by_cases hlt : k < ord l
        · have hk24 : k < 24 := by omega
          have hN := nxS_lt Hgr.out hS hlt
          have hNc := nxS_more Hgr.out hS h0 hlt
          have hN24 : nxS l S k < 2 ^ 24 := Nat.lt_of_lt_of_le hN hp24
          have hsh := shiftF_bd Hgr.out S k
          have q1 := ishl_one (n := k) (by omega)
          have q2 : ior (S : Int) (shiftF l S k : Int) = ((S ||| shiftF l S k : Nat) : Int) := ior_nat (by omega) (by omega)
          have q3 : ior ((S ||| shiftF l S k : Nat) : Int) ((pw k : Nat) : Int) = ((nxS l S k : Nat) : Int) := ior_pw (Nat.or_lt_two_pow hS24 hsh) hk24
          have Hno := Lib.hid (fun h => zfIto_no (l := l) (f := f) (X := X) (S := S) (m := m) (k := k) (b := B) h)
          have Hye := Lib.hid (fun h => zfIto_yes (l := l) (f := f) (X := X) (S := S) (m := m) (k := k) (b := B) hk1 h)
          obtain ⟨N, hNd⟩ : ∃ N, N = nxS l S k := ⟨_, rfl⟩
          rw [← hNd] at hN hNc hN24 q3 Hno Hye
          have cS := fun W (hW : Ext wr W) => shift_any v l S k W (HI.out _ (hEr.trans hW)) Hgr hS24 hk24
          clear hNd
          go_wp2_with (go_at_call 114; refine cO.mono ?_; rintro e1 w1 ⟨rfl, hE1⟩)
          have hbx := fun U => kG _ (hE1.trans (lat_ext w1 U))
          have hE := Ext.refl w1
          (refine wp_region_lat (w1) (by kernel_rfl) (by kernel_rfl) hE ?_); (repeat (go_big_quiet_step (first | (go_at_call 153; exact Calls.lat (cS _ (hE1.trans (lat_ext w1 _))))))); (refine wpQuiet_nil ?_); (intro W hE'); (replace hE := lat_of hE'); (clear hE')
          rename World => w2
          have hE2 := hE1.trans hE
          clear hbx cS
          cases ht : N.testBit 0
          · have cI := fun W => in_val N 0 hN24 (by omega) W ht
            have hEW2 := hEr.trans hE2
            have BG2 := BGr.ext hE2
            have hkk : (X ++ [k]).length = X.length + 1 := by simp
            have hXo2 : ∀ x ∈ X ++ [k], x < ord l := by
              intro y hy; rw [List.mem_append, List.mem_singleton] at hy; rcases hy with hy | rfl
              · exact hXo y hy
              · exact hlt
            have hcR : ∀ W aoN cN, Ext w2 W → Ints W (.slice aoN (X.length + 1) cN) (castL (X ++ [k])) → Calls Try.prog 193 #[.agg #[v], .slice aoN (X.length + 1) cN, .int .i64 N, .func (.func 194) #[] #[.pointer (some ⟨bB, 0, none⟩)]] W fun e w' => e = .returned (.tuple #[]) ∧ ∃ ao c, Blk w' bB 22 #[.slice ao (zfIto l f X S m B (k + 1)).length c] ∧ Ints w' (.slice ao (zfIto l f X S m B (k + 1)).length c) (castL (zfIto l f X S m B (k + 1))) ∧ Fw (Bx bB) W w' := fun W aoN cN hW hI => by
              have q := Hih.out (X ++ [k]) (zfIto l f X S m B k) N k aoN aoR cN cR W (hEW2.trans hW) (by rw [hkk]; exact hI) (HBR.out.ext (hE2.trans hW)) (HIR.out.ext (hE2.trans hW)) hRl hN ht (frm_snoc X k) (by omega) (by omega) (by rw [hkk]; omega) hXo2
              rw [hkk, ← Hye.out ht] at q
              exact q
            have hRl2 : (zfIto l f X S m B (k + 1)).length ≤ 24 := by
              rw [Hye.out ht]; exact zfI_in Hgr.out f (X ++ [k]) N k _ hN ht hXo2 (by rw [hkk]; omega) hRl
            have HX2 := Lib.hid (fun W (hW : Ext w2 W) => HXr.out.ext (hE2.trans hW))
            have hln : (castL X).length + [(k : Int)].length ≤ 17592186044416 := by rw [castL_len]; simp; omega
            have kG2 : ∀ W, Ext w2 W → W.cell? ⟨w.heap.size, 0, none⟩ = some v := fun W hW => kG _ (hE2.trans hW)
            have hFw2 := Lib.hid (HFr.out.trans (hE2.fw (Bx bB)))
            clear ht hkk hXo2 kG hE1
            replace hE := Ext.refl w2
            go_wp2_with (go_at_call 129; refine (cI _).mono ?_; rintro e' w' ⟨rfl, hw'⟩; subst hw')
            first | (go_region_held3 (fun W => W.cell? ⟨w.heap.size, 0, none⟩ = some v) (first | exact hG5 | exact kG2 _ (by repeat (first | (with_reducible assumption) | (with_reducible exact Ext.refl _) | (with_reducible apply Ext.drew) | (with_reducible apply Ext.alloc) | (with_reducible (apply And.left; assumption))))) (first | (go_at_call 135; (with_reducible refine Calls.mono (Calls.sh (copyInts_any _ _ _ (HX2.out _ (by repeat (first | (with_reducible assumption) | (with_reducible exact Ext.refl _) | (with_reducible apply Ext.drew) | (with_reducible apply Ext.alloc) | (with_reducible (apply And.left; assumption))))))) ?_); rintro eC wC ⟨aoC, cC, rfl, hOC, hXC⟩; have hHC := Ext.trans (a := w2) (by repeat (first | (with_reducible assumption) | (with_reducible exact Ext.refl _) | (with_reducible apply Ext.drew) | (with_reducible apply Ext.alloc) | (with_reducible (apply And.left; assumption)))) hXC; have hOC2 := hOC.mono (show Ext w2 _ by repeat (first | (with_reducible assumption) | (with_reducible exact Ext.refl _) | (with_reducible apply Ext.drew) | (with_reducible apply Ext.alloc) | (with_reducible (apply And.left; assumption))))) | (go_at_call 193; (with_reducible refine Calls.mono (hcR _ _ _ (by repeat (first | (with_reducible assumption) | (with_reducible exact Ext.refl _) | (with_reducible apply Ext.drew) | (with_reducible apply Ext.alloc) | (with_reducible (apply And.left; assumption)))) (Own.ints (by repeat (first | (with_reducible exact hON) | (with_reducible apply Own.alloc) | (with_reducible apply Own.drew))))) ?_); rintro eF wF ⟨rfl, aoF, cF, hBF, hIF, hFF⟩; have hG5 := (hFF.blk (BG2.ext (by repeat (first | (with_reducible assumption) | (with_reducible exact Ext.refl _) | (with_reducible apply Ext.drew) | (with_reducible apply Ext.alloc) | (with_reducible (apply And.left; assumption))))) hne).cell (i := 0) (v := v) rfl) | (have hOq := hOC2; refine step_appendsE slI rfl _ _ rfl w2 w2 _ _ (castL X) [(k : Int)] (Or.inr (by first | exact hOq | exact hOq.alloc _ | exact (hOq.alloc _).drew)) (Blk.ints1 (T := 3) (by repeat (first | (with_reducible assumption) | (with_reducible exact Blk.new _ _ _) | ((with_reducible refine Blk.new' ?_); simp [go_sem]; done) | (with_reducible apply Blk.alloc) | (with_reducible apply Blk.drew) | (with_reducible refine Blk.ext ?_ hXC)))) (by repeat (first | (with_reducible assumption) | (with_reducible exact Ext.refl _) | (with_reducible apply Ext.drew) | (with_reducible apply Ext.alloc) | (with_reducible (apply And.left; assumption)))) hln rfl rfl ?_; intro vD wD hOD hXD hTD; obtain ⟨aoN, cN, rfl, hON, hEN⟩ := NxP.of hOD hXD))) | (fail "the region")
            all_goals
              go_wp2_with fail
              go_roundw
              case rel => exact ⟨k + 1, aoF, cF, by omega, by omega, by go_num, hBF, hIF, hRl2, hFw2.out.trans ((hEN.fw _).trans hFF)⟩
              case measure => (simp [intOf]; omega)
          · have cI := fun W => in_val N 0 hN24 (by omega) W ht
            have Hn := Lib.hid (Hno.out ht)
            clear ht
            go_wp2_with (go_at_call 129; refine (cI _).mono ?_; rintro e' w' ⟨rfl, hw'⟩; subst hw')
            go_roundw
            case rel => exact ⟨k + 1, aoR, cR, by omega, by omega, by go_num, by rw [Hn.out]; exact HBR.out.ext hE2, by rw [Hn.out]; exact HIR.out.ext hE2, by rw [Hn.out]; exact hRl, HFr.out.trans (hE2.fw _)⟩
            case measure => (simp [intOf]; omega)
        · have hkl : k = ord l := by omega
          have Hn := Lib.hid (show zfI l (f + 1) X S m B = zfIto l f X S m B k by rw [He.out, hkl])
          clear hkl
          go_wp2_with (go_at_call 114; refine cO.mono ?_; rintro e1 w1 ⟨rfl, hE1⟩)
          go_end0
          exact ⟨rfl, aoR, cR, by rw [Hn.out]; exact HBR.out.ext hE1, by rw [Hn.out]; exact HIR.out.ext hE1, HF0.out.trans (HFr.out.trans (hE1.fw _))⟩
end Go.Zz

/- LongestZeroFree of the program. -/
namespace Go.Zz
open Go.RowKit Go.Proofs
set_option maxHeartbeats 2000000
set_option maxRecDepth 8000

theorem LongestZeroFree_any (v : Value) (l : List Int) (w : World) (h : Ints w v l) :
    Calls Try.prog 115 #[.agg #[v]] w fun e w' => ∃ ao c, e = .returned (.tuple #[.slice ao (lzL l).length c, .bool (lzB l)]) ∧ Ints w' (.slice ao (lzL l).length c) (castL (lzL l)) ∧ Ext w w' := by
  obtain ⟨wb, hwb⟩ : ∃ wb, wb = w.alloc (.cells #[v] 31) := ⟨_, rfl⟩
  have hE0 := (Ext.refl w).alloc (.cells #[v] 31)
  have hb := box_cell w v 31
  rw [← hwb] at hE0 hb
  have hg : ∀ W, Ext wb W → Ints W v l := fun W hW => h.ext (hE0.trans hW)
  have hE := Ext.refl wb
  have Hsz : Hid (w.heap.size + 1 = wb.heap.size) := Lib.hid (by rw [hwb]; simp [go_sem])
  have Hwb := Lib.hid hwb
  clear hwb h
  have hbx := hb wb hE
  have cG := IsGroup_any v l wb (hg _ hE)
  cases hgr : isGrp l
  · have hB : lzB l = false := by unfold lzB; rw [hgr]; rfl
    have Hs := Lib.hid (And.intro hB (lz_no hB))
    rw [hgr] at cG
    clear hB
    go_enter Try.func115, Try.ntmps115
    go_wp2_with fail
    rw [← Hwb.out]
    refine cG.mono ?_
    rintro e w1 ⟨rfl, hE1⟩
    go_wp2_with fail
    have hEf := hE0.trans hE1
    exact bodyPost_ret (v := .tuple #[.slice (some ⟨w1.heap.size, 0, none⟩) 0 0, .bool false]) (by simp [results, Try.results115, go_sem]) rfl ⟨_, _, by rw [Hs.out.1, Hs.out.2]; rfl, by rw [Hs.out.2]; exact (own_made (TI := 3) (n := 0) (by omega) hEf (castL []) rfl).ints, Ext.alloc hEf _⟩
  rw [hgr] at cG
  have Hgr := Lib.hid hgr
  have hob := ord_bd hgr
  have cO := fun W (hW : Ext wb W) => OrderOf_grp v l W (hg _ hW) Hgr
  by_cases hm : ord l ≤ 9
  rotate_left
  · have hB : lzB l = false := by unfold lzB; rw [hgr]; simpa using hm
    have Hs := Lib.hid (And.intro hB (lz_no hB))
    clear hB
    go_enter Try.func115, Try.ntmps115
    go_wp2_with fail
    rw [← Hwb.out]
    refine cG.mono ?_
    rintro e w1 ⟨rfl, hE1⟩
    have hb1 := hb w1 hE1
    go_wp2_with (refine (cO _ hE1).mono ?_; rintro e w2 ⟨rfl, hE2⟩)
    have hEf := hE0.trans (hE1.trans hE2)
    exact bodyPost_ret (v := .tuple #[.slice (some ⟨w2.heap.size, 0, none⟩) 0 0, .bool false]) (by simp [results, Try.results115, go_sem]) rfl ⟨_, _, by rw [Hs.out.1, Hs.out.2]; rfl, by rw [Hs.out.2]; exact (own_made (TI := 3) (n := 0) (by omega) hEf (castL []) rfl).ints, Ext.alloc hEf _⟩
  have hB : lzB l = true := by unfold lzB; rw [hgr]; simpa using hm
  have Hs := Lib.hid (And.intro hB (lz_yes hB))
  have hmf : ∀ (fn : Fn) (first cap : Array Value) (w : World), (Instr.makeFunc fn first cap).run Try.prog w = .ok (.func fn first cap) w := fun _ _ _ _ => rfl
  have hz0 : (zfI l (ord l + 1) [] 0 1 []) = zfS l (ord l + 1) [] 0 1 := by
    rw [zfI_eq]
    split
    · rfl
    · next h => exact (List.eq_nil_of_length_eq_zero (by simp at h; rw [h]; rfl)).symm
  have cF := fun (W0 W : World) (bB : Nat) (aoB : Option Addr) (cB : Nat) (aoX : Option Addr) (cX : Nat) (hW0 : Ext wb W0) (hW : Ext W0 W) (h0B : W0.heap.size ≤ bB) (hBk : Blk W bB 22 #[.slice aoB 0 cB]) (hIB : Ints W (.slice aoB 0 cB) []) (hIX : Ints W (.slice aoX 0 cX) []) =>
    zf_any v l Hgr W0 bB h0B (Lib.hid fun W' hW' => hg _ (hW0.trans hW')) (ord l + 1) [] [] 0 1 aoX aoB cX cB W hW hIX hBk hIB (by simp) (Nat.two_pow_pos _) (by simp) rfl (by omega) (by simp [cnt_zero]) (by simp) (by simp)
  rw [hz0] at cF
  obtain ⟨Z, hZ⟩ : ∃ Z, Z = zfS l (ord l + 1) [] 0 1 := ⟨_, rfl⟩
  rw [← hZ] at cF Hs
  clear hB hgr hZ hz0
  go_enter Try.func115, Try.ntmps115
  go_wp2_with fail
  rw [← Hwb.out]
  refine cG.mono ?_
  rintro e w1 ⟨rfl, hE1⟩
  have hb1 := hb w1 hE1
  go_wp2_with (go_at_call 114; refine (cO _ hE1).mono ?_; rintro e w2 ⟨rfl, hE2⟩; have hE12 := hE1.trans hE2; have hb2 := hb w2 hE12; have hb3 := hb _ ((hE12.alloc (.cells #[] 3)).alloc (.cells #[.slice (some ⟨w2.heap.size, 0, none⟩) 0 0] 22)))
  obtain ⟨x1, h1⟩ : ∃ x, x = w2.alloc (.cells #[] 3) := ⟨_, rfl⟩
  obtain ⟨x2, h2⟩ : ∃ x, x = x1.alloc (.cells #[.slice (some ⟨w2.heap.size, 0, none⟩) 0 0] 22) := ⟨_, rfl⟩
  obtain ⟨x3, h3⟩ : ∃ x, x = x2.alloc (.cells #[] 3) := ⟨_, rfl⟩
  have s1 : x1.heap.size = w2.heap.size + 1 := by rw [h1]; simp
  have s2 : x2.heap.size = w2.heap.size + 1 + 1 := by rw [h2]; simp [s1]
  rw [← h1, ← h2, ← h3]
  have e1 : Ext w2 x1 := by rw [h1]; exact (Ext.refl _).alloc _
  have e2 : Ext x1 x2 := by rw [h2]; exact (Ext.refl _).alloc _
  have e3 : Ext x2 x3 := by rw [h3]; exact (Ext.refl _).alloc _
  have O1 : Own 3 w2 x1 (.slice (some ⟨w2.heap.size, 0, none⟩) 0 0) [] := by rw [h1]; exact own_made (TI := 3) (n := 0) (by omega) (Ext.refl w2) [] rfl
  have B2 : Blk x2 (w2.heap.size + 1) 22 #[.slice (some ⟨w2.heap.size, 0, none⟩) 0 0] := by rw [h2, ← s1]; exact Blk.new _ _ _
  have O3 : Own 3 x2 x3 (.slice (some ⟨w2.heap.size + 1 + 1, 0, none⟩) 0 0) [] := by rw [h3, ← s2]; exact own_made (TI := 3) (n := 0) (by omega) (Ext.refl x2) [] rfl
  refine (cF w2 x3 (w2.heap.size + 1) _ _ _ _ hE12 (e1.trans (e2.trans e3)) (by omega) (B2.ext e3) (O1.ints.ext (e2.trans e3)) O3.ints).mono ?_
  rintro e w4 ⟨rfl, aoZ, cZ, hBZ, hIZ, hFZ⟩
  have kz := hBZ.cell (i := 0) (v := .slice aoZ Z.length cZ) rfl
  have hEf : Ext w2 w4 := hFZ.ext (e1.trans (e2.trans e3)) (fun k hk => by rw [hk]; omega)
  go_wp2_with fail
  exact bodyPost_ret (v := .tuple #[.slice aoZ Z.length cZ, .bool true]) (by simp [results, Try.results115, go_sem]) rfl ⟨_, _, by rw [Hs.out.1, Hs.out.2], by rw [Hs.out.2]; exact hIZ, hE0.trans (hE12.trans hEf)⟩
end Go.Zz

/- Claims of sums: stabilizers, pairs of Kneser's bound. -/
namespace Go.Zz
open Go.RowKit Go.Proofs
set_option maxHeartbeats 2000000
set_option maxRecDepth 20000

/-- the elements below k that shift a set onto itself -/
def stabTo (l : List Int) (a k : Nat) : Nat := bset ((List.range k).filter (fun x => decide (shiftF l a x = a)))
theorem stabTo_yes {l : List Int} {a k : Nat} (h : shiftF l a k = a) : stabTo l a (k + 1) = stabTo l a k ||| 2 ^ k := by
  unfold stabTo; rw [List.range_succ, List.filter_append]; simp only [List.filter_cons, List.filter_nil, h, decide_true, if_true]; exact bset_snoc _ _
theorem stabTo_no {l : List Int} {a k : Nat} (h : ¬ shiftF l a k = a) : stabTo l a (k + 1) = stabTo l a k := by
  unfold stabTo; rw [List.range_succ, List.filter_append]; simp [h]
theorem stabTo_lt (l : List Int) (a k : Nat) : stabTo l a k < 2 ^ k := bset_lt fun _ hx => List.mem_range.1 (List.mem_filter.1 hx).1
def stabF (l : List Int) (a : Nat) : Nat := stabTo l a (ord l)
theorem stabF_lt (l : List Int) (a : Nat) : stabF l a < 2 ^ ord l := stabTo_lt l a _
def fullB (l : List Int) (a b : Int) : Bool := isSetB l a && isSetB l b && !(a == 0) && !(b == 0)
theorem fullB_set {l : List Int} {a b : Int} (h : (isSetB l a && isSetB l b) = false) : fullB l a b = false := by unfold fullB; rw [h]; rfl
theorem fullB_nat {l : List Int} {a b : Int} (h : fullB l a b = true) : ∃ m n : Nat, a = m ∧ b = n ∧ m ≠ 0 ∧ n ≠ 0 ∧ m < 2 ^ ord l ∧ n < 2 ^ ord l ∧ m < 2 ^ 24 ∧ n < 2 ^ 24 ∧ isGrp l = true ∧ isSetB l a = true ∧ isSetB l b = true := by
  unfold fullB at h
  simp only [Bool.and_eq_true, Bool.not_eq_true', beq_eq_false_iff_ne] at h
  obtain ⟨⟨⟨h1, h2⟩, h3⟩, h4⟩ := h
  obtain ⟨m, rfl, a1, a2, hg⟩ := isSetB_nat h1
  obtain ⟨n, rfl, b1, b2, -⟩ := isSetB_nat h2
  exact ⟨m, n, rfl, rfl, by omega, by omega, a1, b1, a2, b2, hg, h1, h2⟩
theorem cnt_sum_ge {l : List Int} (h : isGrp l = true) {a b : Nat} (ha : a ≠ 0) (ha2 : a < 2 ^ ord l) (hb : b < 2 ^ ord l) : cnt b ≤ cnt (sumF l a b) := by
  obtain ⟨x, hx⟩ := bit_of_pos ha
  rw [← cnt_shift h hb x]
  refine cnt_mono fun i hi => ?_
  obtain ⟨y, hy, by_, rfl⟩ := testBit_shiftF.1 hi
  exact testBit_sumF.2 ⟨x, y, Nat.lt_of_lt_of_le (bit_lt ha2 hx) (ord_bd h).2, hx, hy, by_, rfl⟩

theorem StabilizerOf_nat (v : Value) (l : List Int) (a : Nat) (w : World) (h : Ints w v l) (hs : isSetB l a = true) :
    Calls Try.prog 234 #[.agg #[v], .int .i64 a] w fun e w' => e = .returned (.int .i64 (stabF l a : Nat)) ∧ Ext w w' := by
  obtain ⟨wb, hwb⟩ : ∃ wb, wb = w.alloc (.cells #[v] 31) := ⟨_, rfl⟩
  have hE0 := (Ext.refl w).alloc (.cells #[v] 31)
  have hb := box_cell w v 31
  rw [← hwb] at hE0 hb
  have hg : ∀ W, Ext wb W → Ints W v l := fun W hW => h.ext (hE0.trans hW)
  have hE := Ext.refl wb
  have Hsz : Hid (w.heap.size + 1 = wb.heap.size) := Lib.hid (by rw [hwb]; simp [go_sem])
  have Hwb := Lib.hid hwb
  clear hwb h
  obtain ⟨a', e1, -, ha2, hgr⟩ := isSetB_nat hs
  obtain rfl : a = a' := by omega
  have Hgr := Lib.hid hgr
  have hob := ord_bd hgr
  clear hgr e1
  go_enter Try.func234, Try.ntmps234
  go_wp2_with fail
  rw [← Hwb.out]
  go_wp2_with (first | (go_at_call 134; refine (IsSet_val _ _ _ _ (hg _ hE) (hs)).mono ?_; rintro e w' ⟨rfl, hE'⟩; replace hE := hE.trans hE'; clear hE') | (go_at_call 114; refine (OrderOf_grp _ _ _ (hg _ hE) (Hgr)).mono ?_; rintro e w' ⟨rfl, hE'⟩; replace hE := hE.trans hE'; clear hE'))
  clear hs
  go_loopw [5, 13] (fun ov xv wr => ∃ k : Nat, k ≤ ord l ∧ xv = .int .i64 k ∧ ov = .int .i64 (stabTo l a k : Nat) ∧ Ext wb wr) (fun _ x _ => ord l - (intOf x).toNat)
  case atStart => exact ⟨0, by omega, rfl, rfl, hE⟩
  case round =>
    clear hE
    obtain ⟨k, hk, rfl, rfl, hE⟩ := hrel
    have hbx := hb _ hE
    by_cases hlt : k < ord l
    · have hst : stabTo l a k < 2 ^ 24 := Nat.lt_of_lt_of_le (stabTo_lt l a k) (Nat.pow_le_pow_right (by omega) (by omega))
      have hsf := shiftF_bd Hgr.out a k
      have hs1 := ishl_one (n := k) (by omega)
      have hs2 := ior_pw hst (show k < 24 by omega)
      by_cases hq : shiftF l a k = a
      · have Hn := Lib.hid (stabTo_yes hq)
        have hqi : ((shiftF l a k : Int) == (a : Int)) = true := by rw [hq]; simp
        clear hq
        go_wp2_with (first | (go_at_call 153; refine (shift_any _ _ _ _ _ (hg _ hE) (Hgr) (ha2) ((by omega))).mono ?_; rintro e w' ⟨rfl, hE'⟩; replace hE := hE.trans hE'; clear hE'))
        go_roundw
        case rel => exact ⟨k + 1, by omega, by go_num, by rw [Hn.out], hE⟩
        case measure => (simp [intOf]; omega)
      · have Hn := Lib.hid (stabTo_no hq)
        have hqi : ((shiftF l a k : Int) == (a : Int)) = false := by simp; omega
        clear hq
        go_wp2_with (first | (go_at_call 153; refine (shift_any _ _ _ _ _ (hg _ hE) (Hgr) (ha2) ((by omega))).mono ?_; rintro e w' ⟨rfl, hE'⟩; replace hE := hE.trans hE'; clear hE'))
        go_roundw
        case rel => exact ⟨k + 1, by omega, by go_num, by rw [Hn.out], hE⟩
        case measure => (simp [intOf]; omega)
    · have hkl : k = ord l := by omega
      subst hkl
      go_wp2_with fail
      go_ret
      exact ⟨rfl, hE0.trans hE⟩
--%call l6Stabilizer 231 ext l6Stabilizer_any _ _ _ _ ({0}) ({1}) ({2})
theorem l6Stabilizer_any (v : Value) (l : List Int) (a : Nat) (w : World) (h : Ints w v l) (Hgr : Hid (isGrp l = true)) (ha2 : a < 2 ^ 24) :
    Calls Try.prog 231 #[.agg #[v], .int .i64 a] w fun e w' => e = .returned (.int .i64 (stabF l a : Nat)) ∧ Ext w w' := by
  obtain ⟨wb, hwb⟩ : ∃ wb, wb = w.alloc (.cells #[v] 31) := ⟨_, rfl⟩
  have hE0 := (Ext.refl w).alloc (.cells #[v] 31)
  have hb := box_cell w v 31
  rw [← hwb] at hE0 hb
  have hg : ∀ W, Ext wb W → Ints W v l := fun W hW => h.ext (hE0.trans hW)
  have hE := Ext.refl wb
  have Hsz : Hid (w.heap.size + 1 = wb.heap.size) := Lib.hid (by rw [hwb]; simp [go_sem])
  have Hwb := Lib.hid hwb
  clear hwb h
  have hob := ord_bd Hgr.out
  go_enter Try.func231, Try.ntmps231
  go_wp2_with fail
  rw [← Hwb.out]
  go_loopw [5, 6] (fun ov xv wr => ∃ k : Nat, k ≤ ord l ∧ xv = .int .i64 k ∧ ov = .int .i64 (stabTo l a k : Nat) ∧ Ext wb wr) (fun _ x _ => ord l - (intOf x).toNat)
  case atStart => exact ⟨0, by omega, rfl, rfl, hE⟩
  case round =>
    clear hE
    obtain ⟨k, hk, rfl, rfl, hE⟩ := hrel
    have hbx := hb _ hE
    by_cases hlt : k < ord l
    · have hst : stabTo l a k < 2 ^ 24 := Nat.lt_of_lt_of_le (stabTo_lt l a k) (Nat.pow_le_pow_right (by omega) (by omega))
      have hsf := shiftF_bd Hgr.out a k
      have hs1 := ishl_one (n := k) (by omega)
      have hs2 := ior_pw hst (show k < 24 by omega)
      by_cases hq : shiftF l a k = a
      · have Hn := Lib.hid (stabTo_yes hq)
        have hqi : ((shiftF l a k : Int) == (a : Int)) = true := by rw [hq]; simp
        clear hq
        go_wp2_with (first | (go_at_call 106; refine (l2Order_any _ _ _ (hg _ hE) (Hgr)).mono ?_; rintro e w' ⟨rfl, hE'⟩; replace hE := hE.trans hE'; clear hE') | (go_at_call 156; refine (l3Shift_any _ _ _ _ _ (hg _ hE) (Hgr) (ha2) ((by omega))).mono ?_; rintro e w' ⟨rfl, hE'⟩; replace hE := hE.trans hE'; clear hE'))
        go_roundw
        case rel => exact ⟨k + 1, by omega, by go_num, by rw [Hn.out], hE⟩
        case measure => (simp [intOf]; omega)
      · have Hn := Lib.hid (stabTo_no hq)
        have hqi : ((shiftF l a k : Int) == (a : Int)) = false := by simp; omega
        clear hq
        go_wp2_with (first | (go_at_call 106; refine (l2Order_any _ _ _ (hg _ hE) (Hgr)).mono ?_; rintro e w' ⟨rfl, hE'⟩; replace hE := hE.trans hE'; clear hE') | (go_at_call 156; refine (l3Shift_any _ _ _ _ _ (hg _ hE) (Hgr) (ha2) ((by omega))).mono ?_; rintro e w' ⟨rfl, hE'⟩; replace hE := hE.trans hE'; clear hE'))
        go_roundw
        case rel => exact ⟨k + 1, by omega, by go_num, by rw [Hn.out], hE⟩
        case measure => (simp [intOf]; omega)
    · have hkl : k = ord l := by omega
      subst hkl
      go_wp2_with (first | (go_at_call 106; refine (l2Order_any _ _ _ (hg _ hE) (Hgr)).mono ?_; rintro e w' ⟨rfl, hE'⟩; replace hE := hE.trans hE'; clear hE'))
      go_ret
      exact ⟨rfl, hE0.trans hE⟩
/-- the bound of Kneser, as the reference writes it -/
def knF (l : List Int) (a b : Nat) : Int := (cnt (sumF l a (stabF l (sumF l a b))) : Int) + cnt (sumF l b (stabF l (sumF l a b))) - cnt (stabF l (sumF l a b))
theorem knF_pos {l : List Int} (h : isGrp l = true) {a b : Nat} (ha : a ≠ 0) (ha2 : a < 2 ^ ord l) : 0 ≤ knF l a b := by
  have := cnt_sum_ge h ha ha2 (stabF_lt l (sumF l a b))
  unfold knF; omega
def kpH (l : List Int) (a b : Nat) : Nat := stabF l (sumF l a b)
def csK (l : List Int) (a b : Int) : Int := if fullB l a b then 1 else 0
def csA (l : List Int) (a b : Int) : Int := if fullB l a b then a else 0
def csB (l : List Int) (a b : Int) : Int := if fullB l a b then b else 0
def csS (l : List Int) (a b : Int) : Int := if fullB l a b then (sumF l a.toNat b.toNat : Int) else 0
def csP (l : List Int) (a b : Int) : Int := if fullB l a b then (kpH l a.toNat b.toNat : Int) else 0
def csG (l : List Int) (a b : Int) : List Int := if fullB l a b then l else []
theorem cs_no {l : List Int} {a b : Int} (h : fullB l a b = false) : csK l a b = 0 ∧ csA l a b = 0 ∧ csB l a b = 0 ∧ csS l a b = 0 ∧ csP l a b = 0 ∧ csG l a b = [] := by
  unfold csK csA csB csS csP csG; rw [h]; exact ⟨rfl, rfl, rfl, rfl, rfl, rfl⟩
theorem cs_yes {l : List Int} {a b : Nat} (h : fullB l a b = true) : csK l a b = 1 ∧ csA l a b = a ∧ csB l a b = b ∧ csS l a b = (sumF l a b : Int) ∧ csP l a b = (kpH l a b : Int) ∧ csG l a b = l := by
  unfold csK csA csB csS csP csG; rw [h]; exact ⟨rfl, rfl, rfl, rfl, rfl, rfl⟩
end Go.Zz
