/- The search for a first largest set: the program's closures. -/
import Derived.Test.YtgjomoedgmofbaaC29
import Derived.Test.YtgjomoedgmofbaaPi
import Derived.Test.YtgjomoedgmofbaaFr
import Derived.Deep.RegionHeld3
import Derived.Laws.EntriesVeiled
namespace Go.Zz
open Go.RowKit Go.Proofs
set_option maxHeartbeats 2000000
set_option maxRecDepth 4000

/-- w' is w with new blocks, and writes to the blocks of S alone -/
structure Fw (S : Nat → Prop) (w w' : World) : Prop where
  os : w'.os = w.os
  tape : w'.tape = w.tape
  output : w'.output = w.output
  size : w.heap.size ≤ w'.heap.size
  block : ∀ k, k < w.heap.size → ¬ S k → w'.heap[k]? = w.heap[k]?
theorem Fw.refl (S : Nat → Prop) (w : World) : Fw S w w := ⟨rfl, rfl, rfl, Nat.le_refl _, fun _ _ _ => rfl⟩
theorem Fw.trans {S : Nat → Prop} {w w1 w2 : World} (h : Fw S w w1) (k : Fw S w1 w2) : Fw S w w2 :=
  ⟨k.os.trans h.os, k.tape.trans h.tape, k.output.trans h.output, Nat.le_trans h.size k.size, fun i hi hs => (k.block i (Nat.lt_of_lt_of_le hi h.size) hs).trans (h.block i hi hs)⟩
theorem Ext.fw {w w' : World} (h : Ext w w') (S : Nat → Prop) : Fw S w w' := ⟨h.os, h.tape, h.output, h.size, fun k hk _ => h.block k hk⟩
theorem fw_set {S : Nat → Prop} {b : Nat} (h : S b) (w : World) (i : Nat) (v : Value) : Fw S w (w.setCell ⟨b, i, none⟩ v) :=
  ⟨rfl, rfl, rfl, by simp, fun k _ hk => Below.heap_setCell _ _ _ _ (fun e => hk (by rw [e]; exact h))⟩
theorem Fw.ext {S : Nat → Prop} {w0 w w' : World} (h : Fw S w w') (hE : Ext w0 w) (hS : ∀ k, S k → w0.heap.size ≤ k) : Ext w0 w' := by
  have hs := hE.size
  refine ⟨h.os.trans hE.os, h.tape.trans hE.tape, h.output.trans hE.output, Nat.le_trans hs h.size, fun k hk => ?_⟩
  rw [h.block k (Nat.lt_of_lt_of_le hk hs) fun e => by have := hS k e; omega]
  exact hE.block k hk
theorem Fw.blk {S : Nat → Prop} {w w' : World} (h : Fw S w w') {c : Nat} {T : TypeId} {cs : Array Value} (hB : Blk w c T cs) (hc : ¬ S c) : Blk w' c T cs := by
  unfold Blk; rw [h.block c hB.lt hc]; exact hB
/-- three boxes of ints -/
def S3 (a b c : Nat) (k : Nat) : Prop := k = a ∨ k = b ∨ k = c

theorem firstCl_any (v : Value) (l : List Int) (P : Nat → Bool) (Hgr : Hid (isGrp l = true)) (W0 : World) (bC bS bB bG bI bT : Nat) (hCS : bC ≠ bS) (hCB : bC ≠ bB) (hSB : bS ≠ bB) (hTC : bT ≠ bC) (hTS : bT ≠ bS) (hTB : bT ≠ bB) (h0C : W0.heap.size ≤ bC) (h0S : W0.heap.size ≤ bS) (h0B : W0.heap.size ≤ bB)
    (p1 p2 : Value) (HG : ∀ W, Ext W0 W → W.cell? ⟨bG, 0, none⟩ = some v) (HF : ∀ W, Ext W0 W → W.cell? ⟨bI, 0, none⟩ = some (.func (.func 168) #[] #[p1, p2])) (HI : Hid (∀ W, Ext W0 W → Ints W v l))
    (HP : ∀ W b, Ext W0 W → b < 2 ^ 24 → Calls Try.prog 168 #[.int .i64 (b : Nat), p1, p2] W fun e w' => e = .returned (.bool (P b)) ∧ Ext W w') :
    ∀ (f b n fr : Nat) (w : World) (s : Nat × Int) (c : Int), ord l < fr + f → fr ≤ ord l → b < 2 ^ 24 → n ≤ fr → -1 ≤ s.2 → s.2 ≤ 24 → Ext W0 w → Blk w bB 3 #[.int .i64 s.1] → Blk w bS 3 #[.int .i64 s.2] → Blk w bC 3 #[.int .i64 c] →
    Blk w bT 123 #[.func (.func 227) #[] #[.pointer (some ⟨bC, 0, none⟩), .pointer (some ⟨bS, 0, none⟩), .pointer (some ⟨bB, 0, none⟩), .pointer (some ⟨bG, 0, none⟩), .pointer (some ⟨bI, 0, none⟩), .pointer (some ⟨bT, 0, none⟩)]] →
    Calls Try.prog 227 #[.int .i64 b, .int .i64 n, .int .i64 fr, .pointer (some ⟨bC, 0, none⟩), .pointer (some ⟨bS, 0, none⟩), .pointer (some ⟨bB, 0, none⟩), .pointer (some ⟨bG, 0, none⟩), .pointer (some ⟨bI, 0, none⟩), .pointer (some ⟨bT, 0, none⟩)] w fun e w' =>
      e = .returned (.tuple #[]) ∧ ∃ c', Blk w' bB 3 #[.int .i64 (fsI P (ord l) f b n fr s).1] ∧ Blk w' bS 3 #[.int .i64 (fsI P (ord l) f b n fr s).2] ∧ Blk w' bC 3 #[.int .i64 c'] ∧ Fw (S3 bC bS bB) w w' ∧ -1 ≤ (fsI P (ord l) f b n fr s).2 ∧ (fsI P (ord l) f b n fr s).2 ≤ 24 := by
  intro f
  induction f with
  | zero => intro b n fr w s c hf hfr; omega
  | succ f ih =>
    intro b n fr w s c hf hfr hb24 hn hs1 hs2 hE0 hB hS hC hT
    have hob := ord_bd Hgr.out
    have Hih := Lib.hid ih
    clear ih
    obtain ⟨c1, hc1⟩ : ∃ c1, c1 = wrap64 (c + 1) := ⟨_, rfl⟩
    have kc := hC.cell (i := 0) (v := .int .i64 c) rfl
    have fc := hC.free 0
    have B1 : Blk (w.setCell ⟨bC, 0, none⟩ (.int .i64 (wrap64 (c + 1)))) bB 3 #[.int .i64 s.1] := hB.other (by simpa using hCB.symm) _
    have S1 : Blk (w.setCell ⟨bC, 0, none⟩ (.int .i64 (wrap64 (c + 1)))) bS 3 #[.int .i64 s.2] := hS.other (by simpa using hCS.symm) _
    have C1 : Blk (w.setCell ⟨bC, 0, none⟩ (.int .i64 (wrap64 (c + 1)))) bC 3 #[.int .i64 (wrap64 (c + 1))] := hC.set 0 _
    have F1 : Fw (S3 bC bS bB) w (w.setCell ⟨bC, 0, none⟩ (.int .i64 (wrap64 (c + 1)))) := fw_set (Or.inl rfl) w 0 _
    have ks1 := S1.cell (i := 0) (v := .int .i64 s.2) rfl
    have kb1 := B1.cell (i := 0) (v := .int .i64 s.1) rfl
    have fb1 := B1.free 0
    have hS3 : ∀ k, S3 bC bS bB k → W0.heap.size ≤ k := by rintro k (rfl | rfl | rfl) <;> assumption
    have hT3 : ¬ S3 bC bS bB bT := by rintro (h | h | h) <;> contradiction
    by_cases hq : s.2 < (n : Int)
    · have B2 : Blk ((w.setCell ⟨bC, 0, none⟩ (.int .i64 (wrap64 (c + 1)))).setCell ⟨bB, 0, none⟩ (.int .i64 b)) bB 3 #[.int .i64 b] := B1.set 0 _
      have S2 : Blk ((w.setCell ⟨bC, 0, none⟩ (.int .i64 (wrap64 (c + 1)))).setCell ⟨bB, 0, none⟩ (.int .i64 b)) bS 3 #[.int .i64 s.2] := S1.other (by simpa using hSB) _
      have C2 : Blk ((w.setCell ⟨bC, 0, none⟩ (.int .i64 (wrap64 (c + 1)))).setCell ⟨bB, 0, none⟩ (.int .i64 b)) bC 3 #[.int .i64 (wrap64 (c + 1))] := C1.other (by simpa using hCB) _
      have ks2 := S2.cell (i := 0) (v := .int .i64 s.2) rfl
      have fs2 := S2.free 0
      have s0 := fsIto_start (P := P) (N := ord l) (f := f) (b := b) (n := n) (fr := fr) (s := s)
      rw [if_pos hq] at s0
      have HB0 : Hid (Blk (((w.setCell ⟨bC, 0, none⟩ (.int .i64 (wrap64 (c + 1)))).setCell ⟨bB, 0, none⟩ (.int .i64 b)).setCell ⟨bS, 0, none⟩ (.int .i64 n)) bB 3 #[.int .i64 (fsIto P (ord l) f b n fr s fr).1]) := Lib.hid (by rw [s0]; exact B2.other (by simpa using hSB.symm) _)
      have HS0 : Hid (Blk (((w.setCell ⟨bC, 0, none⟩ (.int .i64 (wrap64 (c + 1)))).setCell ⟨bB, 0, none⟩ (.int .i64 b)).setCell ⟨bS, 0, none⟩ (.int .i64 n)) bS 3 #[.int .i64 (fsIto P (ord l) f b n fr s fr).2]) := Lib.hid (by rw [s0]; exact S2.set 0 _)
      have HC0 : Hid (Blk (((w.setCell ⟨bC, 0, none⟩ (.int .i64 (wrap64 (c + 1)))).setCell ⟨bB, 0, none⟩ (.int .i64 b)).setCell ⟨bS, 0, none⟩ (.int .i64 n)) bC 3 #[.int .i64 (wrap64 (c + 1))]) := Lib.hid (C2.other (by simpa using hCS) _)
      have HF0 : Hid (Fw (S3 bC bS bB) w (((w.setCell ⟨bC, 0, none⟩ (.int .i64 (wrap64 (c + 1)))).setCell ⟨bB, 0, none⟩ (.int .i64 b)).setCell ⟨bS, 0, none⟩ (.int .i64 n))) := Lib.hid ((F1.trans (fw_set (Or.inr (Or.inr rfl)) _ 0 _)).trans (fw_set (Or.inr (Or.inl rfl)) _ 0 _))
      have Hb0 : Hid (-1 ≤ (fsIto P (ord l) f b n fr s fr).2 ∧ (fsIto P (ord l) f b n fr s fr).2 ≤ 24) := Lib.hid (by rw [s0]; simp only; omega)
      clear s0 B1 S1 C1 F1 B2 S2 C2 hB hS hC hc1
      go_enter Try.func227, Try.ntmps227
      go_wp2_with fail
      clear kc fc ks1 kb1 fb1 ks2 fs2 hq
      go_loopw [12] (fun xv wr => ∃ (k : Nat) (c' : Int), fr ≤ k ∧ k ≤ ord l ∧ xv = .int .i64 k ∧ Blk wr bB 3 #[.int .i64 (fsIto P (ord l) f b n fr s k).1] ∧ Blk wr bS 3 #[.int .i64 (fsIto P (ord l) f b n fr s k).2] ∧ Blk wr bC 3 #[.int .i64 c'] ∧ Fw (S3 bC bS bB) w wr ∧ -1 ≤ (fsIto P (ord l) f b n fr s k).2 ∧ (fsIto P (ord l) f b n fr s k).2 ≤ 24) (fun x _ => ord l - (intOf x).toNat)
      case atStart => exact ⟨fr, _, by omega, by omega, rfl, HB0.out, HS0.out, HC0.out, HF0.out, Hb0.out.1, Hb0.out.2⟩
      case round =>
        obtain ⟨k, c', hk1, hk2, rfl, hB, hS, hC, hF, hb1, hb2⟩ := hrel
        clear HB0 HS0 HC0 HF0 Hb0
        have hEr := hF.ext hE0 hS3
        have hTr := hF.blk hT hT3
        obtain ⟨z, hz⟩ : ∃ z, z = fsIto P (ord l) f b n fr s k := ⟨_, rfl⟩
        rw [← hz] at hB hS hb1 hb2
        have HB := Lib.hid hB
        have HS := Lib.hid hS
        have HC := Lib.hid hC
        have HFw := Lib.hid hF
        clear hB hS hC hF
        by_cases hlt : k < ord l
        · have hk24 : k < 24 := by omega
          have hs1' := ishl_one (n := k) (by omega)
          have hs2' := ior_pw hb24 hk24
          have hbk : b ||| 2 ^ k < 2 ^ 24 := Nat.or_lt_two_pow hb24 (Nat.pow_lt_pow_right (by omega) hk24)
          cases hP : P (b ||| 2 ^ k)
          · have Hn : Hid (fsIto P (ord l) f b n fr s (k + 1) = z) := Lib.hid (by rw [fsIto_no hP, hz])
            have hcP := fun W (hW : Ext wr W) => HP W (b ||| 2 ^ k) (hEr.trans hW) hbk
            rw [hP] at hcP
            clear hz hP
            go_wp2_with (first | (go_at_call 108; refine (OrderOf_grp _ _ _ (HI.out _ hEr) Hgr).mono ?_; rintro e1 w1 ⟨rfl, hE1⟩; have hE01 := hEr.trans hE1) | (go_at_call 168; refine (hcP _ hE1).mono ?_; rintro e2 w2 ⟨rfl, hE2⟩; have hE12 := hE1.trans hE2))
            go_roundw
            case rel => exact ⟨k + 1, c', by omega, by omega, by go_num, by rw [Hn.out]; exact HB.out.ext hE12, by rw [Hn.out]; exact HS.out.ext hE12, HC.out.ext hE12, HFw.out.trans (hE12.fw _), by rw [Hn.out]; exact hb1, by rw [Hn.out]; exact hb2⟩
            case measure => (simp [intOf]; omega)
          · have Hn : Hid (fsIto P (ord l) f b n fr s (k + 1) = fsI P (ord l) f (b ||| 2 ^ k) (n + 1) (k + 1) z) := Lib.hid (by rw [fsIto_yes hlt hk1 hP, hz])
            have hcP := fun W (hW : Ext wr W) => HP W (b ||| 2 ^ k) (hEr.trans hW) hbk
            rw [hP] at hcP
            have hcR := fun W (hE : Ext wr W) => Hih.out (b ||| 2 ^ k) (n + 1) (k + 1) W z c' (by omega) (by omega) hbk (by omega) hb1 hb2 (hEr.trans hE) (HB.out.ext hE) (HS.out.ext hE) (HC.out.ext hE) (hTr.ext hE)
            rw [show ((n + 1 : Nat) : Int) = (n : Int) + 1 by omega, show ((k + 1 : Nat) : Int) = (k : Int) + 1 by omega] at hcR
            have kt : ∀ W, Ext wr W → W.cell? ⟨bT, 0, none⟩ = some (.func (.func 227) #[] #[.pointer (some ⟨bC, 0, none⟩), .pointer (some ⟨bS, 0, none⟩), .pointer (some ⟨bB, 0, none⟩), .pointer (some ⟨bG, 0, none⟩), .pointer (some ⟨bI, 0, none⟩), .pointer (some ⟨bT, 0, none⟩)]) := fun W hW => (hTr.ext hW).cell (i := 0) rfl
            clear hz hP
            go_wp2_with (first | (go_at_call 108; refine (OrderOf_grp _ _ _ (HI.out _ hEr) Hgr).mono ?_; rintro e1 w1 ⟨rfl, hE1⟩; have hE01 := hEr.trans hE1) | (go_at_call 168; refine (hcP _ hE1).mono ?_; rintro e2 w2 ⟨rfl, hE2⟩; have hE12 := hE1.trans hE2) | (go_at_call 227; refine (hcR _ hE12).mono ?_; rintro e3 w3 ⟨rfl, c3, hB3, hS3', hC3, hF3, hb3, hb4⟩))
            go_roundw
            case rel => exact ⟨k + 1, c3, by omega, by omega, by go_num, by rw [Hn.out]; exact hB3, by rw [Hn.out]; exact hS3', hC3, HFw.out.trans ((hE12.fw _).trans hF3), by rw [Hn.out]; exact hb3, by rw [Hn.out]; exact hb4⟩
            case measure => (simp [intOf]; omega)
        · have hkl : k = ord l := by omega
          have Hn : Hid (fsI P (ord l) (f + 1) b n fr s = z) := Lib.hid (by rw [fsI_end hob.2, hz, hkl])
          clear hz
          go_wp2_with (go_at_call 108; refine (OrderOf_grp _ _ _ (HI.out _ hEr) Hgr).mono ?_; rintro e1 w1 ⟨rfl, hE1⟩; have hE01 := hEr.trans hE1)
          go_end0
          exact ⟨rfl, c', by rw [Hn.out]; exact HB.out.ext hE1, by rw [Hn.out]; exact HS.out.ext hE1, HC.out.ext hE1, HFw.out.trans (hE1.fw _), by rw [Hn.out]; exact hb1, by rw [Hn.out]; exact hb2⟩
    · have s0 := fsIto_start (P := P) (N := ord l) (f := f) (b := b) (n := n) (fr := fr) (s := s)
      rw [if_neg hq] at s0
      have HB0 : Hid (Blk (w.setCell ⟨bC, 0, none⟩ (.int .i64 (wrap64 (c + 1)))) bB 3 #[.int .i64 (fsIto P (ord l) f b n fr s fr).1]) := Lib.hid (by rw [s0]; exact B1)
      have HS0 : Hid (Blk (w.setCell ⟨bC, 0, none⟩ (.int .i64 (wrap64 (c + 1)))) bS 3 #[.int .i64 (fsIto P (ord l) f b n fr s fr).2]) := Lib.hid (by rw [s0]; exact S1)
      have HC0 := Lib.hid C1
      have HF0 := Lib.hid F1
      have Hb0 : Hid (-1 ≤ (fsIto P (ord l) f b n fr s fr).2 ∧ (fsIto P (ord l) f b n fr s fr).2 ≤ 24) := Lib.hid (by rw [s0]; exact ⟨hs1, hs2⟩)
      clear s0 B1 S1 C1 F1 hB hS hC hc1
      go_enter Try.func227, Try.ntmps227
      go_wp2_with fail
      clear kc fc ks1 kb1 fb1 hq
      go_loopw [12] (fun xv wr => ∃ (k : Nat) (c' : Int), fr ≤ k ∧ k ≤ ord l ∧ xv = .int .i64 k ∧ Blk wr bB 3 #[.int .i64 (fsIto P (ord l) f b n fr s k).1] ∧ Blk wr bS 3 #[.int .i64 (fsIto P (ord l) f b n fr s k).2] ∧ Blk wr bC 3 #[.int .i64 c'] ∧ Fw (S3 bC bS bB) w wr ∧ -1 ≤ (fsIto P (ord l) f b n fr s k).2 ∧ (fsIto P (ord l) f b n fr s k).2 ≤ 24) (fun x _ => ord l - (intOf x).toNat)
      case atStart => exact ⟨fr, _, by omega, by omega, rfl, HB0.out, HS0.out, HC0.out, HF0.out, Hb0.out.1, Hb0.out.2⟩
      case round =>
        obtain ⟨k, c', hk1, hk2, rfl, hB, hS, hC, hF, hb1, hb2⟩ := hrel
        clear HB0 HS0 HC0 HF0 Hb0
        have hEr := hF.ext hE0 hS3
        have hTr := hF.blk hT hT3
        obtain ⟨z, hz⟩ : ∃ z, z = fsIto P (ord l) f b n fr s k := ⟨_, rfl⟩
        rw [← hz] at hB hS hb1 hb2
        have HB := Lib.hid hB
        have HS := Lib.hid hS
        have HC := Lib.hid hC
        have HFw := Lib.hid hF
        clear hB hS hC hF
        by_cases hlt : k < ord l
        · have hk24 : k < 24 := by omega
          have hs1' := ishl_one (n := k) (by omega)
          have hs2' := ior_pw hb24 hk24
          have hbk : b ||| 2 ^ k < 2 ^ 24 := Nat.or_lt_two_pow hb24 (Nat.pow_lt_pow_right (by omega) hk24)
          cases hP : P (b ||| 2 ^ k)
          · have Hn : Hid (fsIto P (ord l) f b n fr s (k + 1) = z) := Lib.hid (by rw [fsIto_no hP, hz])
            have hcP := fun W (hW : Ext wr W) => HP W (b ||| 2 ^ k) (hEr.trans hW) hbk
            rw [hP] at hcP
            clear hz hP
            go_wp2_with (first | (go_at_call 108; refine (OrderOf_grp _ _ _ (HI.out _ hEr) Hgr).mono ?_; rintro e1 w1 ⟨rfl, hE1⟩; have hE01 := hEr.trans hE1) | (go_at_call 168; refine (hcP _ hE1).mono ?_; rintro e2 w2 ⟨rfl, hE2⟩; have hE12 := hE1.trans hE2))
            go_roundw
            case rel => exact ⟨k + 1, c', by omega, by omega, by go_num, by rw [Hn.out]; exact HB.out.ext hE12, by rw [Hn.out]; exact HS.out.ext hE12, HC.out.ext hE12, HFw.out.trans (hE12.fw _), by rw [Hn.out]; exact hb1, by rw [Hn.out]; exact hb2⟩
            case measure => (simp [intOf]; omega)
          · have Hn : Hid (fsIto P (ord l) f b n fr s (k + 1) = fsI P (ord l) f (b ||| 2 ^ k) (n + 1) (k + 1) z) := Lib.hid (by rw [fsIto_yes hlt hk1 hP, hz])
            have hcP := fun W (hW : Ext wr W) => HP W (b ||| 2 ^ k) (hEr.trans hW) hbk
            rw [hP] at hcP
            have hcR := fun W (hE : Ext wr W) => Hih.out (b ||| 2 ^ k) (n + 1) (k + 1) W z c' (by omega) (by omega) hbk (by omega) hb1 hb2 (hEr.trans hE) (HB.out.ext hE) (HS.out.ext hE) (HC.out.ext hE) (hTr.ext hE)
            rw [show ((n + 1 : Nat) : Int) = (n : Int) + 1 by omega, show ((k + 1 : Nat) : Int) = (k : Int) + 1 by omega] at hcR
            have kt : ∀ W, Ext wr W → W.cell? ⟨bT, 0, none⟩ = some (.func (.func 227) #[] #[.pointer (some ⟨bC, 0, none⟩), .pointer (some ⟨bS, 0, none⟩), .pointer (some ⟨bB, 0, none⟩), .pointer (some ⟨bG, 0, none⟩), .pointer (some ⟨bI, 0, none⟩), .pointer (some ⟨bT, 0, none⟩)]) := fun W hW => (hTr.ext hW).cell (i := 0) rfl
            clear hz hP
            go_wp2_with (first | (go_at_call 108; refine (OrderOf_grp _ _ _ (HI.out _ hEr) Hgr).mono ?_; rintro e1 w1 ⟨rfl, hE1⟩; have hE01 := hEr.trans hE1) | (go_at_call 168; refine (hcP _ hE1).mono ?_; rintro e2 w2 ⟨rfl, hE2⟩; have hE12 := hE1.trans hE2) | (go_at_call 227; refine (hcR _ hE12).mono ?_; rintro e3 w3 ⟨rfl, c3, hB3, hS3', hC3, hF3, hb3, hb4⟩))
            go_roundw
            case rel => exact ⟨k + 1, c3, by omega, by omega, by go_num, by rw [Hn.out]; exact hB3, by rw [Hn.out]; exact hS3', hC3, HFw.out.trans ((hE12.fw _).trans hF3), by rw [Hn.out]; exact hb3, by rw [Hn.out]; exact hb4⟩
            case measure => (simp [intOf]; omega)
        · have hkl : k = ord l := by omega
          have Hn : Hid (fsI P (ord l) (f + 1) b n fr s = z) := Lib.hid (by rw [fsI_end hob.2, hz, hkl])
          clear hz
          go_wp2_with (go_at_call 108; refine (OrderOf_grp _ _ _ (HI.out _ hEr) Hgr).mono ?_; rintro e1 w1 ⟨rfl, hE1⟩; have hE01 := hEr.trans hE1)
          go_end0
          exact ⟨rfl, c', by rw [Hn.out]; exact HB.out.ext hE1, by rw [Hn.out]; exact HS.out.ext hE1, HC.out.ext hE1, HFw.out.trans (hE1.fw _), by rw [Hn.out]; exact hb1, by rw [Hn.out]; exact hb2⟩
end Go.Zz
