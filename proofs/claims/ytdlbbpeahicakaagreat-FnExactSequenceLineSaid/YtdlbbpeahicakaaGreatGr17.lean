/- The search for atoms: zeroFree of the program with the closure that gathers them. -/
import Derived.Test.YtdlbbpeahicakaaGreatGr16
import Derived.Deep.RegionHeld3
import Derived.Test.YtdlbbpeahicakaaGreatGr10
import Derived.Test.YtdlbbpeahicakaaGreatGr14
import Derived.Test.YtdlbbpeahicakaaGreatGr15
namespace Go.Zz
open Go.RowKit Go.Proofs
set_option maxHeartbeats 4000000
set_option maxRecDepth 8000

theorem RowE.fr {w0 w w' : World} {u v : Value} {a : List Nat} {b : Nat} {cs : Array Value} {A : List (List Nat)} (h : RowE w u a) (hB : Blk w b 107 cs) (hO : OwnC w0 w v A) (hF : Fr b v.ownBlock w w') : RowE w' u a := by
  rcases h with h | ⟨h0, g, cap, cs', h1, h2, h3, h4⟩
  · exact Or.inl h
  · refine Or.inr ⟨h0, g, cap, cs', h1, h2, hF.blk h3 (fun e => ?_) (hO.not h3 (by decide)), h4⟩
    subst e
    have hB' : w.heap[g]? = some (.cells cs 107 (0, 0)) := hB
    have h3' : w.heap[g]? = some (.cells cs' 3 (0, 0)) := h3
    rw [h3'] at hB'
    simp at hB'
theorem OutP.trans {w0 w w1 w2 w3 : World} {b : Nat} {vo vo1 vo2 : Value} {A B : List (List Nat)} (h : OutP w0 b w vo A vo1 w1) (hE : Ext w1 w2) (k : OutP w0 b w2 vo1 B vo2 w3) : OutP w0 b w vo B vo2 w3 :=
  ⟨k.1, k.2.1, h.2.2.1.trans h.2.2.2 ((hE.fr b vo1.ownBlock).trans (Nw.refl _ _) k.2.2.1), h.2.2.2.trans h.2.2.1.size ((Nw.refl _ _).trans hE.size k.2.2.2)⟩
theorem OutP.ext {w0 w w1 w2 : World} {b : Nat} {vo vo1 : Value} {A : List (List Nat)} (h : OutP w0 b w vo A vo1 w1) (hE : Ext w1 w2) : OutP w0 b w vo A vo1 w2 :=
  ⟨h.1.ext hE, h.2.1.ext hE, h.2.2.1.trans h.2.2.2 (hE.fr b vo1.ownBlock), h.2.2.2⟩
theorem OutP.back {w0 w w1 w2 : World} {b : Nat} {vo vo1 : Value} {A : List (List Nat)} (hE : Ext w w1) (h : OutP w0 b w1 vo A vo1 w2) : OutP w0 b w vo A vo1 w2 :=
  ⟨h.1, h.2.1, (hE.fr b vo.ownBlock).trans (Nw.refl _ _) h.2.2.1, (Nw.refl _ _).trans hE.size h.2.2.2⟩
theorem lstN_snoc (X : List Nat) (k : Nat) : lstN (X ++ [k]) = k := by unfold lstN; simp [nthN, List.getD]
theorem zfAt_any (v : Value) (l : List Int) (Hgr : Hid (isGrp l = true)) (h7 : ord l ≤ 7) (w0 : World) (bG bO : Nat) (HG : ∀ W, Ext w0 W → W.cell? ⟨bG, 0, none⟩ = some v) (HI : Hid (∀ W, Ext w0 W → Ints W v l)) (h0O : w0.heap.size ≤ bO) :
    ∀ (f : Nat) (X : List Nat) (S : Nat) (O : List (List Nat)) (vX vo : Value) (w : World), Ext w0 w → RowE w vX X → Blk w bO 107 #[vo] → OwnC w0 w vo O → S < 2 ^ ord l → S.testBit 0 = false → ord l < cnt S + f → X.length ≤ cnt S → (∀ x ∈ X, x < ord l) → sortB (castL X) = true → (X.length ≠ 0 → 1 ≤ nthN X (X.length - 1)) → O.length + (atR l f X S (lstN X)).length ≤ 48 →
    Calls Tryz.prog 195 #[.agg #[v], vX, .int .i64 S, .func (.func 196) #[] #[.pointer (some ⟨bG, 0, none⟩), .pointer (some ⟨bO, 0, none⟩)]] w fun e w' => e = .returned (.tuple #[]) ∧ ∃ vo', OutP w0 bO w vo (O ++ atR l f X S (lstN X)) vo' w' := by
  intro f
  induction f with
  | zero => intro X S O vX vo w hw hX hB hO hS h0 hf; have := cnt_ord Hgr.out hS; omega
  | succ f ih =>
    intro X S O vX vo w hw hX hB hO hS h0 hf hXl hXo hs hX1 hK
    have hob := ord_bd Hgr.out
    have hp24 := pow_ord Hgr.out
    have hS24 : S < 2 ^ 24 := Nat.lt_of_lt_of_le hS hp24
    have hcS := cnt_ord Hgr.out hS
    obtain ⟨wb, hwb⟩ : ∃ wb, wb = w.alloc (.cells #[v] 27) := ⟨_, rfl⟩
    have hE0 : Ext w wb := by rw [hwb]; exact (Ext.refl _).alloc _
    have BG : Blk wb w.heap.size 27 #[v] := by rw [hwb]; exact Blk.new _ _ _
    have hneO : w.heap.size ≠ bO := by have := hB.lt; omega
    have hWb := hw.trans hE0
    have HXb := Lib.hid (hX.ext hE0)
    have HBb := Lib.hid (hB.ext hE0)
    have HOb := Lib.hid (hO.ext hE0)
    have HneG := Lib.hid ((hO.ext hE0).not BG (by decide))
    have HE0 := Lib.hid hE0
    have Hwb := Lib.hid hwb
    have Hih := Lib.hid ih
    have HK := Lib.hid hK
    have Hs := Lib.hid hs
    have hO48 : O.length ≤ 48 := by omega
    have cV := visitAt_any v l Hgr w0 bG bO HG HI X O S vX vo wb hWb (hX.ext hE0) (hB.ext hE0) (hO.ext hE0) (by omega) hXo hs hO48
    have Hst0 := fun h => atK_start l f X S (lstN X) (max 1 (lstN X)) h
    have Hend := Lib.hid (atK_end l f X S (lstN X))
    have hmm : max 1 (lstN X) ≤ ord l := by
      unfold lstN
      split
      · omega
      · next hn => have := hXo _ (nthN_mem (L := X) (k := X.length - 1) (by omega)); omega
    obtain ⟨m1, hmd⟩ : ∃ m1, m1 = max 1 (lstN X) := ⟨_, rfl⟩
    rw [← hmd] at Hst0 hmm
    have Hst := Lib.hid (Hst0 (Nat.le_refl _))
    have Hm1 := Lib.hid hmd
    have hm1 := hmm
    obtain ⟨aoX, cX, rfl⟩ := hX.shape
    clear ih hwb hE0 hB hO hK hs Hst0 hmd hmm
    by_cases hXe : X.length = 0
    · have Hm : Hid ((1 : Int) = (m1 : Int)) := Lib.hid (by rw [Hm1.out]; unfold lstN; rw [if_pos hXe]; rfl)
      have hxI : ¬ (0 : Int) < ((X.length : Nat) : Int) := by omega
      clear hXe hX hX1
      go_enter Tryz.func195, Tryz.ntmps195
      go_wp2_with fail
      rw [← Hwb.out]
      refine cV.mono ?_
      rintro e w1 ⟨rfl, vo1, hP0⟩
      have HP0 := Lib.hid hP0
      clear hP0 cV
      go_wp2_with fail
      obtain ⟨d17, hd17⟩ : ∃ d : Bool, d = decide (0 < X.length) := ⟨_, rfl⟩
      rw [← hd17]
      clear hd17 hxI
      go_loopw [9] (fun xv wr => ∃ (k : Nat) (u : Value), m1 ≤ k ∧ k ≤ ord l ∧ xv = .int .i64 k ∧ OutP w0 bO wb vo (O ++ atK l f X S (lstN X) k) u wr) (fun xv _ => ord l - (intOf xv).toNat)
      case atStart => exact ⟨m1, vo1, Nat.le_refl _, hm1, by first | rfl | rw [Hm.out], by rw [Hst.out]; exact HP0.out⟩
      case round =>
        clear HP0
        obtain ⟨k, u, hk1, hk2, rfl, hP⟩ := hrel
        have hEr := hP.2.2.1.ext hWb h0O (fun g hg => (HOb.out.blk g hg).1)
        have BGr := hP.2.2.1.blk BG hneO HneG.out
        have HXr := Lib.hid (HXb.out.fr HBb.out HOb.out hP.2.2.1)
        have HP := Lib.hid hP
        have kG : ∀ W, Ext wr W → W.cell? ⟨w.heap.size, 0, none⟩ = some v := fun W hW => (BGr.ext hW).cell (i := 0) rfl
        have kr := kG wr (Ext.refl wr)
        have hgr : ∀ W, Ext wr W → Ints W v l := fun W hW => HI.out W (hEr.trans hW)
        have cO := OrderOf_grp v l wr (hgr _ (Ext.refl wr)) Hgr
        clear hP
        by_cases hlt : k < ord l
        · have hltI : (k : Int) < (ord l : Int) := by omega
          have hk24 : k < 24 := by omega
          have hN := nxS_lt Hgr.out hS hlt
          have hNc := nxS_more Hgr.out hS h0 hlt
          have hN24 : nxS l S k < 2 ^ 24 := Nat.lt_of_lt_of_le hN hp24
          have hsh := shiftF_bd Hgr.out S k
          have q1 := ishl_one (n := k) (by omega)
          have q2 : ior (S : Int) (shiftF l S k : Int) = ((S ||| shiftF l S k : Nat) : Int) := ior_nat (by omega) (by omega)
          have q3 : ior ((S ||| shiftF l S k : Nat) : Int) ((pw k : Nat) : Int) = ((nxS l S k : Nat) : Int) := ior_pw (Nat.or_lt_two_pow hS24 hsh) hk24
          have Hno := Lib.hid (fun h => atK_no (l := l) (f := f) (X := X) (S := S) (m := lstN X) (k := k) h)
          have Hye := Lib.hid (fun h => atK_yes (l := l) (f := f) (X := X) (S := S) (m := lstN X) (k := k) (by rw [← Hm1.out]; exact hk1) h)
          have Hmono := Lib.hid (fun d => atK_mono l f X S (lstN X) (k + 1) d)
          obtain ⟨N, hNd⟩ : ∃ N, N = nxS l S k := ⟨_, rfl⟩
          rw [← hNd] at hN hNc hN24 q3 Hno Hye
          have cS := fun W (hW : Ext wr W) => shift_any v l S k W (hgr _ hW) Hgr hS24 hk24
          clear hNd
          go_wp2_with (go_at_call 157; refine cO.mono ?_; rintro e1 w1 ⟨rfl, hE1⟩)
          have hbx := fun U => kG _ (hE1.trans (lat_ext w1 U))
          have hE := Ext.refl w1
          (refine wp_region_lat (w1) (by kernel_rfl) (by kernel_rfl) hE ?_); (repeat (go_big_quiet_step (first | (go_at_call 166; exact Calls.lat (cS _ (hE1.trans (lat_ext w1 _))))))); (refine wpQuiet_nil ?_); (intro W hE'); (replace hE := lat_of hE'); (clear hE')
          rename World => w2
          have hE2 := hE1.trans hE
          clear hbx cS hE
          cases ht : N.testBit 0
          · have cI := fun W => in_val N 0 hN24 (by omega) W ht
            have Hy2 := Lib.hid (Hye.out ht)
            have hmX : ∀ x ∈ X ++ [k], x < ord l := fun y hy => by
              rw [List.mem_append, List.mem_singleton] at hy
              rcases hy with hy | rfl
              · exact hXo y hy
              · exact hlt
            have hsX : sortB (castL (X ++ [k])) = true := sort_snoc Hs.out (fun hn => by
              have h1 : m1 = max 1 (lstN X) := Hm1.out
              have h2 : lstN X = nthN X (X.length - 1) := by unfold lstN; rw [if_neg hn]
              omega)
            have hcR : ∀ W vN, Ext w2 W → RowE W vN (X ++ [k]) → Calls Tryz.prog 195 #[.agg #[v], vN, .int .i64 N, .func (.func 196) #[] #[.pointer (some ⟨bG, 0, none⟩), .pointer (some ⟨bO, 0, none⟩)]] W fun e w' => e = .returned (.tuple #[]) ∧ ∃ vo', OutP w0 bO W u (O ++ atK l f X S (lstN X) (k + 1)) vo' w' := fun W vN hW hI => by
              have q := Hih.out (X ++ [k]) N (O ++ atK l f X S (lstN X) k) vN u W (hEr.trans (hE2.trans hW)) hI (HP.out.1.ext (hE2.trans hW)) (HP.out.2.1.ext (hE2.trans hW)) hN ht (by omega) (by simp; omega) hmX hsX (fun _ => by have hm1q : m1 = max 1 (lstN X) := Hm1.out; simp [nthN, List.getD]; omega) (by
                have h1 := HK.out
                have h2 := Hmono.out (ord l - (k + 1))
                rw [show k + 1 + (ord l - (k + 1)) = ord l by omega, ← Hend.out, Hy2.out] at h2
                rw [lstN_snoc]
                rw [List.length_append] at h2 ⊢
                omega)
              rw [lstN_snoc, List.append_assoc, ← Hy2.out] at q
              exact q
            have HX2 := Lib.hid (fun W (hW : Ext w2 W) => (HXr.out.ext (hE2.trans hW)).ints)
            have hln : (castL X).length + [(k : Int)].length ≤ 17592186044416 := by rw [castL_len]; simp; omega
            have kG2 := fun W (hW : Ext w2 W) => kG W (hE2.trans hW)
            have BG2 := BGr.ext hE2
            have hXk : (X ++ [k]).length ≤ 1000 := by simp; omega
            have HneU := Lib.hid (HP.out.2.1.not BGr (by decide))
            have hFw := hneO
            clear ht hmX hsX
            have hE := Ext.refl w2
            go_wp2_with (go_at_call 163; refine (cI _).mono ?_; rintro e' w' ⟨rfl, hw'⟩; subst hw')
            first | (go_region_held3 (fun W => W.cell? ⟨w.heap.size, 0, none⟩ = some v) (first | exact hG5 | exact kG2 _ (by repeat (first | (with_reducible assumption) | (with_reducible exact Ext.refl _) | (with_reducible apply Ext.drew) | (with_reducible apply Ext.alloc) | (with_reducible (apply And.left; assumption))))) (first | (go_at_call 86; (with_reducible refine Calls.mono (Calls.sh (copyInts_any _ _ _ (HX2.out _ (by repeat (first | (with_reducible assumption) | (with_reducible exact Ext.refl _) | (with_reducible apply Ext.drew) | (with_reducible apply Ext.alloc) | (with_reducible (apply And.left; assumption))))))) ?_); rintro eC wC ⟨aoC, cC, rfl, hOC, hXC⟩; have hHC := Ext.trans (a := w2) (by repeat (first | (with_reducible assumption) | (with_reducible exact Ext.refl _) | (with_reducible apply Ext.drew) | (with_reducible apply Ext.alloc) | (with_reducible (apply And.left; assumption)))) hXC; have hOC2 := hOC.mono (show Ext w2 _ by repeat (first | (with_reducible assumption) | (with_reducible exact Ext.refl _) | (with_reducible apply Ext.drew) | (with_reducible apply Ext.alloc) | (with_reducible (apply And.left; assumption))))) | (go_at_call 195; have hDr := rowB_own hON (by simp) hXk; have hRE : RowE wD (.slice aoN (X.length + 1) cN) (X ++ [k]) := Or.inr hDr; have hCL := hcR wD _ hEN hRE; (with_reducible refine Calls.mono hCL ?_); rintro eF wF ⟨rfl, vF, hAF⟩; have hG5 := (hAF.2.2.1.blk (BG2.ext hEN) hneO HneU.out).cell (i := 0) (v := v) rfl) | (have hOq := hOC2; refine step_appendsE slI rfl _ _ rfl w2 w2 _ _ (castL X) [(k : Int)] (Or.inr (by first | exact hOq | exact hOq.alloc _ | exact (hOq.alloc _).drew)) (Blk.ints1 (T := 3) (by repeat (first | (with_reducible assumption) | (with_reducible exact Blk.new _ _ _) | ((with_reducible refine Blk.new' ?_); simp [go_sem]; done) | (with_reducible apply Blk.alloc) | (with_reducible apply Blk.drew) | (with_reducible refine Blk.ext ?_ hXC)))) (by repeat (first | (with_reducible assumption) | (with_reducible exact Ext.refl _) | (with_reducible apply Ext.drew) | (with_reducible apply Ext.alloc) | (with_reducible (apply And.left; assumption)))) hln rfl rfl ?_; intro vD wD hOD hXD hTD; obtain ⟨aoN, cN, rfl, hON, hEN⟩ := NxP.of hOD hXD))) | (fail "the region")
            all_goals
              have hFin := (HP.out.ext hE2).trans hEN hAF
              go_wp2_with fail
              go_roundw
              case rel => exact ⟨k + 1, vF, by omega, by omega, by go_num, hFin⟩
              case measure => (simp [intOf]; omega)
          · have cI := fun W => in_val N 0 hN24 (by omega) W ht
            have Hn := Lib.hid (Hno.out ht)
            clear ht
            go_wp2_with (go_at_call 163; refine (cI _).mono ?_; rintro e' w' ⟨rfl, hw'⟩; subst hw')
            go_roundw
            case rel => exact ⟨k + 1, u, by omega, by omega, by go_num, by rw [Hn.out]; exact HP.out.ext hE2⟩
            case measure => (simp [intOf]; omega)
        · have hltI : ¬ (k : Int) < (ord l : Int) := by omega
          have hkl : k = ord l := by omega
          have Hn := Lib.hid (show atR l (f + 1) X S (lstN X) = atK l f X S (lstN X) k by rw [Hend.out, hkl])
          clear hkl
          go_wp2_with (go_at_call 157; refine cO.mono ?_; rintro e1 w1 ⟨rfl, hE1⟩)
          go_end0
          exact ⟨rfl, u, by rw [Hn.out]; exact (HP.out.ext hE1).back HE0.out⟩
    · have hxI : (0 : Int) < ((X.length : Nat) : Int) := by omega
      have hXl1 : X.length - 1 < X.length := by omega
      have h1l := hX1 hXe
      have Hlast : Hid (nthN X (X.length - 1) = m1) := Lib.hid (by rw [Hm1.out]; unfold lstN; rw [if_neg hXe]; omega)
      have Hm : Hid ((m1 : Int) = (m1 : Int)) := Lib.hid rfl
      clear hXe hX hX1 h1l
      go_enter Tryz.func195, Tryz.ntmps195
      go_wp2_with fail
      rw [← Hwb.out]
      refine cV.mono ?_
      rintro e w1 ⟨rfl, vo1, hP0⟩
      obtain ⟨ao', c', adrX, hvX, hadrX, hcellX⟩ := (HXb.out.fr HBb.out HOb.out hP0.2.2.1).ints.nats
      have hix := ints_index (c := c') elI szI hadrX
      simp only [Value.slice.injEq] at hvX
      obtain ⟨rfl, -, rfl⟩ := hvX
      have ix1 : ∀ W, (Instr.indexAt 22 (.slice aoX X.length cX) (.int .i64 ((X.length : Int) - 1))).run Tryz.prog W = .ok (.pointer (some (adrX (X.length - 1)))) W := fun W => by rw [show ((X.length : Int) - 1) = ((X.length - 1 : Nat) : Int) by omega]; exact hix _ W hXl1
      have hck : w1.cell? (adrX (X.length - 1)) = some (.int .i64 (m1 : Int)) := by rw [← Hlast.out]; exact hcellX _ _ hXl1 (Ext.refl _)
      have HP0 := Lib.hid hP0
      clear hP0 cV hix hcellX hadrX
      go_wp2_with fail
      obtain ⟨d17, hd17⟩ : ∃ d : Bool, d = decide (0 < X.length) := ⟨_, rfl⟩
      rw [← hd17]
      clear hd17 hxI ix1 hck
      go_loopw [9] (fun xv wr => ∃ (k : Nat) (u : Value), m1 ≤ k ∧ k ≤ ord l ∧ xv = .int .i64 k ∧ OutP w0 bO wb vo (O ++ atK l f X S (lstN X) k) u wr) (fun xv _ => ord l - (intOf xv).toNat)
      case atStart => exact ⟨m1, vo1, Nat.le_refl _, hm1, by first | rfl | rw [Hm.out], by rw [Hst.out]; exact HP0.out⟩
      case round =>
        clear HP0
        obtain ⟨k, u, hk1, hk2, rfl, hP⟩ := hrel
        have hEr := hP.2.2.1.ext hWb h0O (fun g hg => (HOb.out.blk g hg).1)
        have BGr := hP.2.2.1.blk BG hneO HneG.out
        have HXr := Lib.hid (HXb.out.fr HBb.out HOb.out hP.2.2.1)
        have HP := Lib.hid hP
        have kG : ∀ W, Ext wr W → W.cell? ⟨w.heap.size, 0, none⟩ = some v := fun W hW => (BGr.ext hW).cell (i := 0) rfl
        have kr := kG wr (Ext.refl wr)
        have hgr : ∀ W, Ext wr W → Ints W v l := fun W hW => HI.out W (hEr.trans hW)
        have cO := OrderOf_grp v l wr (hgr _ (Ext.refl wr)) Hgr
        clear hP
        by_cases hlt : k < ord l
        · have hltI : (k : Int) < (ord l : Int) := by omega
          have hk24 : k < 24 := by omega
          have hN := nxS_lt Hgr.out hS hlt
          have hNc := nxS_more Hgr.out hS h0 hlt
          have hN24 : nxS l S k < 2 ^ 24 := Nat.lt_of_lt_of_le hN hp24
          have hsh := shiftF_bd Hgr.out S k
          have q1 := ishl_one (n := k) (by omega)
          have q2 : ior (S : Int) (shiftF l S k : Int) = ((S ||| shiftF l S k : Nat) : Int) := ior_nat (by omega) (by omega)
          have q3 : ior ((S ||| shiftF l S k : Nat) : Int) ((pw k : Nat) : Int) = ((nxS l S k : Nat) : Int) := ior_pw (Nat.or_lt_two_pow hS24 hsh) hk24
          have Hno := Lib.hid (fun h => atK_no (l := l) (f := f) (X := X) (S := S) (m := lstN X) (k := k) h)
          have Hye := Lib.hid (fun h => atK_yes (l := l) (f := f) (X := X) (S := S) (m := lstN X) (k := k) (by rw [← Hm1.out]; exact hk1) h)
          have Hmono := Lib.hid (fun d => atK_mono l f X S (lstN X) (k + 1) d)
          obtain ⟨N, hNd⟩ : ∃ N, N = nxS l S k := ⟨_, rfl⟩
          rw [← hNd] at hN hNc hN24 q3 Hno Hye
          have cS := fun W (hW : Ext wr W) => shift_any v l S k W (hgr _ hW) Hgr hS24 hk24
          clear hNd
          go_wp2_with (go_at_call 157; refine cO.mono ?_; rintro e1 w1 ⟨rfl, hE1⟩)
          have hbx := fun U => kG _ (hE1.trans (lat_ext w1 U))
          have hE := Ext.refl w1
          (refine wp_region_lat (w1) (by kernel_rfl) (by kernel_rfl) hE ?_); (repeat (go_big_quiet_step (first | (go_at_call 166; exact Calls.lat (cS _ (hE1.trans (lat_ext w1 _))))))); (refine wpQuiet_nil ?_); (intro W hE'); (replace hE := lat_of hE'); (clear hE')
          rename World => w2
          have hE2 := hE1.trans hE
          clear hbx cS hE
          cases ht : N.testBit 0
          · have cI := fun W => in_val N 0 hN24 (by omega) W ht
            have Hy2 := Lib.hid (Hye.out ht)
            have hmX : ∀ x ∈ X ++ [k], x < ord l := fun y hy => by
              rw [List.mem_append, List.mem_singleton] at hy
              rcases hy with hy | rfl
              · exact hXo y hy
              · exact hlt
            have hsX : sortB (castL (X ++ [k])) = true := sort_snoc Hs.out (fun hn => by
              have h1 : m1 = max 1 (lstN X) := Hm1.out
              have h2 : lstN X = nthN X (X.length - 1) := by unfold lstN; rw [if_neg hn]
              omega)
            have hcR : ∀ W vN, Ext w2 W → RowE W vN (X ++ [k]) → Calls Tryz.prog 195 #[.agg #[v], vN, .int .i64 N, .func (.func 196) #[] #[.pointer (some ⟨bG, 0, none⟩), .pointer (some ⟨bO, 0, none⟩)]] W fun e w' => e = .returned (.tuple #[]) ∧ ∃ vo', OutP w0 bO W u (O ++ atK l f X S (lstN X) (k + 1)) vo' w' := fun W vN hW hI => by
              have q := Hih.out (X ++ [k]) N (O ++ atK l f X S (lstN X) k) vN u W (hEr.trans (hE2.trans hW)) hI (HP.out.1.ext (hE2.trans hW)) (HP.out.2.1.ext (hE2.trans hW)) hN ht (by omega) (by simp; omega) hmX hsX (fun _ => by have hm1q : m1 = max 1 (lstN X) := Hm1.out; simp [nthN, List.getD]; omega) (by
                have h1 := HK.out
                have h2 := Hmono.out (ord l - (k + 1))
                rw [show k + 1 + (ord l - (k + 1)) = ord l by omega, ← Hend.out, Hy2.out] at h2
                rw [lstN_snoc]
                rw [List.length_append] at h2 ⊢
                omega)
              rw [lstN_snoc, List.append_assoc, ← Hy2.out] at q
              exact q
            have HX2 := Lib.hid (fun W (hW : Ext w2 W) => (HXr.out.ext (hE2.trans hW)).ints)
            have hln : (castL X).length + [(k : Int)].length ≤ 17592186044416 := by rw [castL_len]; simp; omega
            have kG2 := fun W (hW : Ext w2 W) => kG W (hE2.trans hW)
            have BG2 := BGr.ext hE2
            have hXk : (X ++ [k]).length ≤ 1000 := by simp; omega
            have HneU := Lib.hid (HP.out.2.1.not BGr (by decide))
            have hFw := hneO
            clear ht hmX hsX
            have hE := Ext.refl w2
            go_wp2_with (go_at_call 163; refine (cI _).mono ?_; rintro e' w' ⟨rfl, hw'⟩; subst hw')
            first | (go_region_held3 (fun W => W.cell? ⟨w.heap.size, 0, none⟩ = some v) (first | exact hG5 | exact kG2 _ (by repeat (first | (with_reducible assumption) | (with_reducible exact Ext.refl _) | (with_reducible apply Ext.drew) | (with_reducible apply Ext.alloc) | (with_reducible (apply And.left; assumption))))) (first | (go_at_call 86; (with_reducible refine Calls.mono (Calls.sh (copyInts_any _ _ _ (HX2.out _ (by repeat (first | (with_reducible assumption) | (with_reducible exact Ext.refl _) | (with_reducible apply Ext.drew) | (with_reducible apply Ext.alloc) | (with_reducible (apply And.left; assumption))))))) ?_); rintro eC wC ⟨aoC, cC, rfl, hOC, hXC⟩; have hHC := Ext.trans (a := w2) (by repeat (first | (with_reducible assumption) | (with_reducible exact Ext.refl _) | (with_reducible apply Ext.drew) | (with_reducible apply Ext.alloc) | (with_reducible (apply And.left; assumption)))) hXC; have hOC2 := hOC.mono (show Ext w2 _ by repeat (first | (with_reducible assumption) | (with_reducible exact Ext.refl _) | (with_reducible apply Ext.drew) | (with_reducible apply Ext.alloc) | (with_reducible (apply And.left; assumption))))) | (go_at_call 195; have hDr := rowB_own hON (by simp) hXk; have hRE : RowE wD (.slice aoN (X.length + 1) cN) (X ++ [k]) := Or.inr hDr; have hCL := hcR wD _ hEN hRE; (with_reducible refine Calls.mono hCL ?_); rintro eF wF ⟨rfl, vF, hAF⟩; have hG5 := (hAF.2.2.1.blk (BG2.ext hEN) hneO HneU.out).cell (i := 0) (v := v) rfl) | (have hOq := hOC2; refine step_appendsE slI rfl _ _ rfl w2 w2 _ _ (castL X) [(k : Int)] (Or.inr (by first | exact hOq | exact hOq.alloc _ | exact (hOq.alloc _).drew)) (Blk.ints1 (T := 3) (by repeat (first | (with_reducible assumption) | (with_reducible exact Blk.new _ _ _) | ((with_reducible refine Blk.new' ?_); simp [go_sem]; done) | (with_reducible apply Blk.alloc) | (with_reducible apply Blk.drew) | (with_reducible refine Blk.ext ?_ hXC)))) (by repeat (first | (with_reducible assumption) | (with_reducible exact Ext.refl _) | (with_reducible apply Ext.drew) | (with_reducible apply Ext.alloc) | (with_reducible (apply And.left; assumption)))) hln rfl rfl ?_; intro vD wD hOD hXD hTD; obtain ⟨aoN, cN, rfl, hON, hEN⟩ := NxP.of hOD hXD))) | (fail "the region")
            all_goals
              have hFin := (HP.out.ext hE2).trans hEN hAF
              go_wp2_with fail
              go_roundw
              case rel => exact ⟨k + 1, vF, by omega, by omega, by go_num, hFin⟩
              case measure => (simp [intOf]; omega)
          · have cI := fun W => in_val N 0 hN24 (by omega) W ht
            have Hn := Lib.hid (Hno.out ht)
            clear ht
            go_wp2_with (go_at_call 163; refine (cI _).mono ?_; rintro e' w' ⟨rfl, hw'⟩; subst hw')
            go_roundw
            case rel => exact ⟨k + 1, u, by omega, by omega, by go_num, by rw [Hn.out]; exact HP.out.ext hE2⟩
            case measure => (simp [intOf]; omega)
        · have hltI : ¬ (k : Int) < (ord l : Int) := by omega
          have hkl : k = ord l := by omega
          have Hn := Lib.hid (show atR l (f + 1) X S (lstN X) = atK l f X S (lstN X) k by rw [Hend.out, hkl])
          clear hkl
          go_wp2_with (go_at_call 157; refine cO.mono ?_; rintro e1 w1 ⟨rfl, hE1⟩)
          go_end0
          exact ⟨rfl, u, by rw [Hn.out]; exact (HP.out.ext hE1).back HE0.out⟩
end Go.Zz

/- Taking the terms of a part out, with what is left: the reference. -/
namespace Go.Zz
open Go.RowKit Go.Proofs
set_option maxHeartbeats 2000000
set_option maxRecDepth 8000

def remI (R P : List Int) : List Int := P.foldl (fun (T : List Int) (x : Int) => dropLast1 x T) R
theorem remI_cast (R : List Int) (a : List Nat) : remI R (castL a) = remL R a := by unfold remI remL castL; rw [List.foldl_map]
theorem l19Minus_val (u1 u2 : Value) (T P : List Int) (w : World) (h1 : Ints w u1 T) (h2 : Ints w u2 P) :
    Calls Tryz.prog 118 #[u1, u2] w fun e w' => (∃ v', e = .returned (.tuple #[v', .bool (subM T P)]) ∧ (subM T P = true → Own 3 w w' v' (remI T P))) ∧ Ext w w' := by
  obtain ⟨ao2, c2, adrP, rfl, hlenP, hadrP, hcellP⟩ := h2.op
  have hixP := ints_index (c := c2) elI szI hadrP
  have hlenT : T.length ≤ 17592186044416 := by obtain ⟨_, _, _, _, h', _⟩ := h1; exact h'
  have hO : Own 3 w (w.alloc (.cells #[] 3)) (.slice (some ⟨w.heap.size, 0, none⟩) 0 0) [] := own_made (TI := 3) (n := 0) (by omega) (Ext.refl w) [] rfl
  have hEl := (Ext.refl w).alloc (.cells #[] 3)
  have hI := h1.ext hEl
  clear hadrP h2 h1
  go_enter Tryz.func118, Tryz.ntmps118
  go_wp2_with (at_builtin; refine wp_appends slI rfl _ _ rfl w _ _ _ _ _ hO hI hEl (by simpa using hlenT) rfl rfl ?_; intro v1 w1 hO1 hE1; rw [List.nil_append] at hO1; obtain ⟨ao1, c1, rfl, -⟩ := hO1.shape)
  have HO1 := Lib.hid hO1
  have HE1 := Lib.hid hE1
  clear hO hEl hI hO1 hE1
  go_loopw [6, 7] (fun so si wr => ∃ (k : Nat) (T' : List Int) (ao : Option Addr) (c : Nat), k ≤ P.length ∧ si = .int .i64 k ∧ so = .slice ao T'.length c ∧ Own 3 w wr (.slice ao T'.length c) T' ∧ T'.length ≤ T.length ∧ Hid (subM T P = subM T' (P.drop k)) ∧ Hid (remI T P = remI T' (P.drop k)) ∧ Ext w wr) (fun _ si _ => P.length - (intOf si).toNat)
  case atStart => exact ⟨0, T, ao1, c1, by omega, rfl, rfl, HO1.out, Nat.le_refl _, Lib.hid rfl, Lib.hid rfl, HE1.out⟩
  case round =>
    clear HO1 HE1
    obtain ⟨k, T', ao, c, hk, rfl, rfl, hOr, hTl, HS, HR, hEr⟩ := hrel
    have HO := Lib.hid (fun W (hW : Ext wr W) => hOr.ext hW)
    by_cases hlt : k < P.length
    · obtain ⟨aoT, cT, adrT, hvT, hlT, hadrT, hcellT⟩ := hOr.ints.op
      simp only [Value.slice.injEq] at hvT
      obtain ⟨rfl, -, rfl⟩ := hvT
      have hixT := ints_index (c := c) elI szI hadrT
      have hckP := fun W (hW : Ext wr W) => hcellP k W hlt (hEr.trans hW)
      obtain ⟨Y, hY⟩ : ∃ Y, Y = nth P k := ⟨_, rfl⟩
      have Hdrop : Hid (P.drop k = Y :: P.drop (k + 1)) := Lib.hid (by
        rw [hY, List.drop_eq_getElem_cons hlt]; simp [nth, List.getD, hlt])
      have hcap := hOr.ints.cap
      rw [← hY] at hckP
      have HEr := Lib.hid hEr
      have HcP := Lib.hid hcellP
      clear hadrT hOr hY hcellP
      have hE := Ext.refl wr
      go_wp2_with fail
      go_loopw [8, 9] (fun sa sj wq => ∃ j : Nat, j ≤ T'.length ∧ sj = .int .i64 j ∧ sa = .int .i64 (lastTo T' Y j) ∧ Ext wr wq) (fun _ sj _ => T'.length - (intOf sj).toNat)
      case atStart => exact ⟨0, by omega, rfl, rfl, hE⟩
      case round =>
        clear hE
        rename World => wq
        obtain ⟨j, hj, rfl, rfl, hE⟩ := hrel
        by_cases hlj : j < T'.length
        · have hk1 := fun U => hcellT j _ hlj (hE.trans (lat_ext wq U))
          have hk2 := fun U => hckP _ (hE.trans (lat_ext wq U))
          have hE1 := hE
          clear hE
          have hE := Ext.refl wq
          by_cases e : nth T' j = Y
          · have Hn := Lib.hid (lastTo_yes e)
            have hq : (nth T' j == Y) = true := by rw [e]; simp
            clear e
            go_wp2_with fail
            (refine wp_region_lat (wq) (by kernel_rfl) (by kernel_rfl) hE ?_); (repeat (go_big_quiet_step (first | (fail "no call")))); (refine wpQuiet_nil ?_); (intro W hE'); (replace hE := lat_of hE'); (clear hE')
            go_wp2_with fail
            go_roundw
            case rel => exact ⟨j + 1, by omega, by go_num, by rw [Hn.out], hE1.trans hE⟩
            case measure => (simp [intOf]; omega)
          · have Hn := Lib.hid (lastTo_no e)
            have hq : (nth T' j == Y) = false := by rw [beq_eq_false_iff_ne]; exact e
            clear e
            go_wp2_with fail
            (refine wp_region_lat (wq) (by kernel_rfl) (by kernel_rfl) hE ?_); (repeat (go_big_quiet_step (first | (fail "no call")))); (refine wpQuiet_nil ?_); (intro W hE'); (replace hE := lat_of hE'); (clear hE')
            go_wp2_with fail
            go_roundw
            case rel => exact ⟨j + 1, by omega, by go_num, by rw [Hn.out], hE1.trans hE⟩
            case measure => (simp [intOf]; omega)
        · have hjl : j = T'.length := by omega
          subst hjl
          clear hlj hj
          by_cases hneg : lastTo T' Y T'.length < 0
          · have Hs : Hid (subM T P = false) := Lib.hid (by rw [HS.out, Hdrop.out, subM_no (last_no hneg)])
            go_wp2_with fail
            have hEf := HEr.out.trans hE
            exact bodyPost_ret (v := .tuple #[.slice (some ⟨wq.heap.size, 0, none⟩) 0 0, .bool false]) (by simp [results, Tryz.results118, go_sem]) rfl ⟨⟨_, by rw [Hs.out], fun hh => by rw [Hs.out] at hh; cases hh⟩, hEf.alloc _⟩
          · obtain ⟨a, ea, ha, hd, hm⟩ := last_yes hneg
            have Hs : Hid (subM T P = subM (T'.take a ++ T'.drop (a + 1)) (P.drop (k + 1))) := Lib.hid (by rw [HS.out, Hdrop.out, subM_yes hm, hd])
            have Hr : Hid (remI T P = remI (T'.take a ++ T'.drop (a + 1)) (P.drop (k + 1))) := Lib.hid (by rw [HR.out, Hdrop.out, ← hd]; rfl)
            have Hlen : Hid ((T'.take a ++ T'.drop (a + 1)).length ≤ T.length) := Lib.hid (by rw [List.length_append, List.length_take, List.length_drop]; omega)
            have hln : (T'.take a).length + (T'.drop (a + 1)).length ≤ 17592186044416 := by rw [List.length_take, List.length_drop]; omega
            rw [ea]
            have hna : ¬ ((a : Int) < 0) := by omega
            have hsl := fun W => run_cut (P := Tryz.prog) elI szI ao T'.length c (a : Int) (by omega) (by omega) W
            have hsa := fun W => run_cutAt (P := Tryz.prog) elI szI ao T'.length c (a : Int) (by omega) (by omega) W
            have hfl := fun W => run_cutFrom (P := Tryz.prog) elI szI ao T'.length c ((a : Int) + 1) (by omega) (by omega) W
            have hfa := fun W => run_cutFromAt (P := Tryz.prog) elI szI ao T'.length c ((a : Int) + 1) (by omega) (by omega) W
            rw [show ((a : Int)).toNat = a by omega] at hsl hsa
            rw [show ((a : Int) + 1).toNat = a + 1 by omega] at hfl hfa
            have hw1 : IntKind.i64.wrap ((a : Int) + 1) = (a : Int) + 1 := IntWalk.i64_in _ (by omega)
            have HA := Lib.hid (fun W (hW : Ext wq W) => (HO.out W (hE.trans hW)).ints.take (k := a) (by omega))
            have HB := Lib.hid (fun W (hW : Ext wq W) => (HO.out W (hE.trans hW)).ints.drop (k := a + 1) (by omega))
            have hEq := HEr.out.trans hE
            clear hneg ea hd hm hcellT hckP hixT hixP
            have hE1 := hE
            clear hE
            have hE := Ext.refl wq
            go_wp2_with fail
            first | (go_region_held3 (fun W => Ext wq W) (exact (by repeat (first | assumption | exact Ext.refl _ | (apply And.left; assumption) | apply Ext.drew | apply Ext.alloc))) (first | (have hOq := hOC; refine step_appendsE slI rfl _ _ rfl wq wq _ _ (T'.take a) (T'.drop (a + 1)) (Or.inr (by first | exact hOC | exact hOC.alloc _ | exact (hOC.alloc _).drew)) (HB.out _ (by repeat (first | assumption | exact Ext.refl _ | (apply And.left; assumption) | apply Ext.drew | apply Ext.alloc))) (by repeat (first | assumption | exact Ext.refl _ | (apply And.left; assumption) | apply Ext.drew | apply Ext.alloc)) hln rfl rfl ?_; intro vD wD hOD hXD hTD) | (refine step_copy2 slI rfl _ _ rfl _ _ (T'.take a) rfl rfl (by repeat (first | (with_reducible assumption) | (with_reducible exact Blk.new _ _ _) | ((with_reducible refine Blk.new' ?_); simp [go_sem]; done) | (with_reducible apply Blk.alloc) | (with_reducible apply Blk.drew))) (HA.out _ (by repeat (first | assumption | exact Ext.refl _ | (apply And.left; assumption) | apply Ext.drew | apply Ext.alloc))) wq (by first | exact Nat.le_refl _ | omega | (simp; omega)) (by repeat (first | assumption | exact Ext.refl _ | (apply And.left; assumption) | apply Ext.drew | apply Ext.alloc)) ?_; intro aoC cC wC hOC hZC hEC; have hXC := Ext.trans (a := wq) (by repeat (first | assumption | exact Ext.refl _ | (apply And.left; assumption) | apply Ext.drew | apply Ext.alloc)) hEC))) | (fail "the region")
            all_goals
              obtain ⟨aoN, cN, rfl, hON, hEN⟩ := MiP.of hOD hXD
              go_wp2_with fail
              go_roundw
              case rel => exact ⟨k + 1, _, aoN, cN, by omega, by go_num, rfl, hON.mono hEq, Hlen.out, Hs, Hr, hEq.trans hEN⟩
              case measure => (simp [intOf]; omega)
    · have hkl : k = P.length := by omega
      have Hs : Hid (subM T P = true) := Lib.hid (by rw [HS.out, hkl, List.drop_length]; rfl)
      go_wp2_with fail
      exact bodyPost_ret (v := .tuple #[.slice ao T'.length c, .bool true]) (by simp [results, Tryz.results118, go_sem]) rfl ⟨⟨_, by rw [Hs.out], fun _ => by rw [HR.out, hkl, List.drop_length]; exact HO.out wr (Ext.refl _)⟩, hEr⟩
end Go.Zz

/- Rows of rows of rows: what each row is long. -/
namespace Go.Zz
open Go.RowKit Go.Proofs
set_option maxHeartbeats 1000000
set_option maxRecDepth 4000

/-- u is a row of n headers -/
def RowL (w : World) (u : Value) (n : Nat) : Prop := n ≤ 1000 ∧ ∃ M : List Value, M.length = n ∧ (∀ x ∈ M, x.oneCell' = true) ∧ ((n = 0 ∧ u = .slice none 0 0) ∨ ∃ (g cap : Nat) (cs : Array Value), u = .slice (some ⟨g, 0, none⟩) n cap ∧ n ≤ cap ∧ Blk w g 22 cs ∧ ∀ (i : Nat) x, M[i]? = some x → cs[i]? = some x)
theorem RowL.ext {w w' : World} {u : Value} {n : Nat} (h : RowL w u n) (hE : Ext w w') : RowL w' u n := by
  obtain ⟨h0, M, h1, h2, h3⟩ := h
  refine ⟨h0, M, h1, h2, ?_⟩
  rcases h3 with h3 | ⟨g, cap, cs, h3, h4, h5, h6⟩
  · exact Or.inl h3
  · exact Or.inr ⟨g, cap, cs, h3, h4, h5.ext hE, h6⟩
theorem RowL.one {w : World} {u : Value} {n : Nat} (h : RowL w u n) : u.oneCell' = true := by
  obtain ⟨h0, M, h1, h2, ⟨-, rfl⟩ | ⟨g, cap, cs, rfl, -⟩⟩ := h <;> rfl
theorem RowL.shape {w : World} {u : Value} {n : Nat} (h : RowL w u n) : ∃ ao c, u = .slice ao n c := by
  obtain ⟨h0, M, h1, h2, ⟨rfl, rfl⟩ | ⟨g, cap, cs, rfl, -⟩⟩ := h
  · exact ⟨_, _, rfl⟩
  · exact ⟨_, _, rfl⟩
theorem RowL.cells {w : World} {u : Value} {n : Nat} (h : RowL w u n) : ∃ M : List Value, M.length = n ∧ (∀ x ∈ M, x.oneCell' = true) ∧ CellsAt w u M := by
  obtain ⟨h0, M, h1, h2, ⟨rfl, rfl⟩ | ⟨g, cap, cs, rfl, h4, h5, h6⟩⟩ := h
  · exact ⟨[], rfl, by simp, Or.inl ⟨rfl, rfl⟩⟩
  · refine ⟨M, h1, h2, Or.inr ⟨⟨g, 0, none⟩, cap, by rw [h1], fun j x hx => ?_⟩⟩
    rw [Addr.add_lit, Nat.zero_add]
    exact h5.cell (i := j) (h6 j x hx)
theorem rowL_made {w : World} {g : Nat} (h : Blk w g 22 #[]) : RowL w (.slice (some ⟨g, 0, none⟩) 0 0) 0 := ⟨by omega, [], rfl, by simp, Or.inr ⟨g, 0, _, rfl, by omega, h, fun i x hx => by simp at hx⟩⟩
theorem rowL_own {w0 w : World} {u : Value} {M : List Value} (h : OwnL 22 w0 w u M) (h1 : M.length ≤ 1000) : RowL w u M.length := by
  obtain ⟨k1, k2, -⟩ := h
  refine ⟨h1, M, rfl, k1, ?_⟩
  rcases k2.2 with ⟨rfl, hl⟩ | ⟨g, cap, cur, rfl, hg, hh, hnc, hcm, hcs, htk⟩
  · exact Or.inl ⟨hl, rfl⟩
  · refine Or.inr ⟨g, cap, cur, rfl, hnc, hh, fun i x hx => ?_⟩
    have hi : i < M.length := (List.getElem?_eq_some_iff.1 hx).1
    rw [← htk, List.getElem?_take_of_lt (by omega)] at hx
    simpa using hx
theorem RowL.grown {w0 w w' : World} {u v : Value} {n : Nat} {TE : TypeId} {L : List Value} (h : RowL w u n) (hO : OwnL TE w0 w v L) (hT : 22 ≠ TE) (hg : w.grownBy w' v.ownBlock) : RowL w' u n := by
  obtain ⟨h0, M, h1, h2, h3⟩ := h
  refine ⟨h0, M, h1, h2, ?_⟩
  rcases h3 with h3 | ⟨g, cap, cs, h3, h4, h5, h6⟩
  · exact Or.inl h3
  · exact Or.inr ⟨g, cap, cs, h3, h4, h5.grown hg fun k hk e => hO.not h5 hT (by rw [hk, e]), h6⟩
theorem RowL.other {w : World} {u : Value} {n : Nat} {b : Nat} {T : TypeId} {cs' : Array Value} (h : RowL w u n) (hB : Blk w b T cs') (hT : T ≠ 22) (i : Nat) (x : Value) : RowL (w.setCell ⟨b, i, none⟩ x) u n := by
  obtain ⟨h0, M, h1, h2, h3⟩ := h
  refine ⟨h0, M, h1, h2, ?_⟩
  rcases h3 with h3 | ⟨g, cap, cs, h3, h4, h5, h6⟩
  · exact Or.inl h3
  · refine Or.inr ⟨g, cap, cs, h3, h4, h5.other (fun e => ?_) _, h6⟩
    have e' : g = b := e
    subst e'
    have hB' : w.heap[g]? = some (.cells cs' T (0, 0)) := hB
    have h3' : w.heap[g]? = some (.cells cs 22 (0, 0)) := h5
    rw [h3'] at hB'
    simp at hB'
    exact hT hB'.2.symm
/-- v is a row of the call's own of rows that read as A -/
def OwnF (w0 w : World) (v : Value) (A : List Nat) : Prop := ∃ L : List Value, L.length = A.length ∧ OwnL 107 w0 w v L ∧ ∀ i, i < A.length → RowL w (L.getD i (.slice none 0 0)) (A.getD i 0)
theorem OwnF.ext {w0 w w' : World} {v : Value} {A : List Nat} (h : OwnF w0 w v A) (hE : Ext w w') : OwnF w0 w' v A := by
  obtain ⟨L, h1, h2, h3⟩ := h; exact ⟨L, h1, h2.ext hE, fun i hi => (h3 i hi).ext hE⟩
theorem OwnF.mono {w0 w1 w : World} {v : Value} {A : List Nat} (h : OwnF w1 w v A) (hE : Ext w0 w1) : OwnF w0 w v A := by
  obtain ⟨L, h1, h2, h3⟩ := h; exact ⟨L, h1, h2.mono hE, h3⟩
theorem ownF_made {w0 w : World} (hE : Ext w0 w) : OwnF w0 (w.alloc (.cells #[] 107)) (.slice (some ⟨w.heap.size, 0, none⟩) 0 0) [] := ⟨[], rfl, ownL_made hE, fun i hi => by simp at hi⟩
theorem OwnF.blk {w0 w : World} {v : Value} {A : List Nat} (h : OwnF w0 w v A) : ∀ k, v.ownBlock = some k → w0.heap.size ≤ k ∧ k < w.heap.size := by
  obtain ⟨L, h1, h2, h3⟩ := h; exact h2.blk
theorem OwnF.not {w0 w : World} {v : Value} {A : List Nat} {T : TypeId} (h : OwnF w0 w v A) {g : Nat} {cs : Array Value} (hB : Blk w g T cs) (hT : T ≠ 107) : v.ownBlock ≠ some g := by
  obtain ⟨L, h1, h2, h3⟩ := h; exact h2.not hB hT
theorem OwnF.more {w0 W w' : World} {v v' y : Value} {A : List Nat} {a : Nat} {L : List Value} (h1 : L.length = A.length) (h2 : OwnL 107 w0 W v L) (h3 : ∀ i, i < A.length → RowL W (L.getD i (.slice none 0 0)) (A.getD i 0)) (hy : RowL W y a) (hO : OwnL 107 w0 w' v' (L ++ [y])) (hG : W.grownBy w' v.ownBlock) : OwnF w0 w' v' (A ++ [a]) := by
  refine ⟨L ++ [y], by simp [h1], hO, fun i hi => ?_⟩
  by_cases e : i < A.length
  · have e1 : (L ++ [y]).getD i (.slice none 0 0) = L.getD i (.slice none 0 0) := by simp [List.getD, List.getElem?_append_left (show i < L.length by omega)]
    have e2 : (A ++ [a]).getD i 0 = A.getD i 0 := by simp [List.getD, List.getElem?_append_left e]
    rw [e1, e2]
    exact (h3 i e).grown h2 (by decide) hG
  · have hi' : i = A.length := by simp at hi; omega
    have e1 : (L ++ [y]).getD i (.slice none 0 0) = y := by rw [hi', ← h1]; simp [List.getD]
    have e2 : (A ++ [a]).getD i 0 = a := by rw [hi']; simp [List.getD]
    rw [e1, e2]
    exact hy.grown h2 (by decide) hG
theorem OwnF.shape {w0 w : World} {v : Value} {A : List Nat} (h : OwnF w0 w v A) : ∃ (ao : Option Addr) (c : Nat), v = .slice ao A.length c ∧ A.length ≤ c ∧ (∀ i, i < A.length → ∃ g u, ao = some ⟨g, 0, none⟩ ∧ w.cell? ⟨g, i, none⟩ = some u ∧ RowL w u (A.getD i 0)) := by
  obtain ⟨L, h1, h2, h3⟩ := h
  obtain ⟨ao, c, rfl, hc, hcell⟩ := h2.shape
  rw [h1] at hc hcell ⊢
  exact ⟨ao, c, rfl, hc, fun i hi => by obtain ⟨g, hg, hh⟩ := hcell i hi; exact ⟨g, _, hg, hh, h3 i hi⟩⟩
def RowsL (w : World) (L : List Value) (A : List Nat) : Prop := L.length = A.length ∧ ∀ i, i < A.length → RowL w (L.getD i (.slice none 0 0)) (A.getD i 0)
theorem RowsL.ext {w w' : World} {L : List Value} {A : List Nat} (h : RowsL w L A) (hE : Ext w w') : RowsL w' L A := ⟨h.1, fun i hi => (h.2 i hi).ext hE⟩
theorem RowsL.one {w : World} {u : Value} {a : Nat} (h : RowL w u a) : RowsL w [u] [a] := ⟨rfl, fun i hi => by
  have : i = 0 := by simp at hi; omega
  subst this; exact h⟩
theorem RowsL.append {w : World} {L M : List Value} {A B : List Nat} (h : RowsL w L A) (k : RowsL w M B) : RowsL w (L ++ M) (A ++ B) := by
  refine ⟨by rw [List.length_append, List.length_append, h.1, k.1], fun i hi => ?_⟩
  have hl := h.1
  by_cases e : i < A.length
  · have e1 : (L ++ M).getD i (.slice none 0 0) = L.getD i (.slice none 0 0) := by simp [List.getD, List.getElem?_append_left (show i < L.length by omega)]
    have e2 : (A ++ B).getD i 0 = A.getD i 0 := by simp [List.getD, List.getElem?_append_left e]
    rw [e1, e2]; exact h.2 i e
  · have e1 : (L ++ M).getD i (.slice none 0 0) = M.getD (i - A.length) (.slice none 0 0) := by simp [List.getD, List.getElem?_append_right (show L.length ≤ i by omega), hl]
    have e2 : (A ++ B).getD i 0 = B.getD (i - A.length) 0 := by simp [List.getD, List.getElem?_append_right (show A.length ≤ i by omega)]
    rw [e1, e2]
    exact k.2 _ (by rw [List.length_append] at hi; omega)
theorem RowsL.take {w : World} {L : List Value} {A : List Nat} (h : RowsL w L A) (k : Nat) : RowsL w (L.take k) (A.take k) := by
  refine ⟨by rw [List.length_take, List.length_take, h.1], fun i hi => ?_⟩
  rw [List.length_take] at hi
  have e1 : (L.take k).getD i (.slice none 0 0) = L.getD i (.slice none 0 0) := by simp [List.getD, List.getElem?_take_of_lt (show i < k by omega)]
  have e2 : (A.take k).getD i 0 = A.getD i 0 := by simp [List.getD, List.getElem?_take_of_lt (show i < k by omega)]
  rw [e1, e2]; exact h.2 i (by omega)
theorem RowsL.drop {w : World} {L : List Value} {A : List Nat} (h : RowsL w L A) (k : Nat) : RowsL w (L.drop k) (A.drop k) := by
  refine ⟨by rw [List.length_drop, List.length_drop, h.1], fun i hi => ?_⟩
  rw [List.length_drop] at hi
  have e1 : (L.drop k).getD i (.slice none 0 0) = L.getD (k + i) (.slice none 0 0) := by simp [List.getD, List.getElem?_drop]
  have e2 : (A.drop k).getD i 0 = A.getD (k + i) 0 := by simp [List.getD, List.getElem?_drop]
  rw [e1, e2]; exact h.2 _ (by omega)
theorem RowsL.all {w : World} {L : List Value} {A : List Nat} (h : RowsL w L A) : ∀ u ∈ L, u.oneCell' = true := fun u hu => by
  obtain ⟨i, hi, rfl⟩ := List.getElem_of_mem hu
  have := h.2 i (by rw [← h.1]; exact hi)
  simpa [List.getD, hi] using this.one
theorem OwnF.rows {w0 w : World} {v : Value} {A : List Nat} (h : OwnF w0 w v A) : ∃ L, OwnL 107 w0 w v L ∧ RowsL w L A := by
  obtain ⟨L, h1, h2, h3⟩ := h; exact ⟨L, h2, h1, h3⟩
theorem ownF_of {w0 w : World} {v : Value} {A : List Nat} {L : List Value} (h : OwnL 107 w0 w v L) (k : RowsL w L A) : OwnF w0 w v A := ⟨L, k.1, h, k.2⟩
end Go.Zz

/- Factorizations, by their lengths: l19Factor of the reference. -/
namespace Go.Zz
open Go.RowKit Go.Proofs
set_option maxHeartbeats 1000000
set_option maxRecDepth 8000

theorem OwnF.kept {w0 wz w w' : World} {v u : Value} {A : List Nat} {L : List Value} (h : OwnF w0 w v A) (hO : OwnL 107 wz w u L) (hne : ∀ g, v.ownBlock = some g → u.ownBlock ≠ some g) (hg : w.grownBy w' u.ownBlock) : OwnF w0 w' v A := by
  obtain ⟨M, h1, ⟨h2, h3, h4⟩, h5⟩ := h
  refine ⟨M, h1, ⟨h2, h3.kept hg ?_, h4⟩, fun i hi => (h5 i hi).grown hO (by decide) hg⟩
  cases hv : v.ownBlock with
  | none => simp
  | some g => have := hne g hv; simp; exact fun e => this e.symm
theorem facF_at {F : List Nat} {j : Nat} (hj : j < F.length) : (F.take (j + 1)).map (· + 1) = (F.take j).map (· + 1) ++ [F.getD j 0 + 1] := by
  rw [List.take_succ_eq_append_getElem hj, List.map_append]; simp [List.getD, hj]
theorem sFactor_any (va : Value) (A : List (List Nat)) (w00 w0 : World) (HA : Hid (OwnC w00 w0 va A)) (h48 : A.length ≤ 48) (h1a : ∀ a ∈ A, 1 ≤ a.length) (hBd : Hid (∀ f i0 (R : List Int), R.length ≤ 10 → (facF A f i0 R).length ≤ 254803968)) :
    ∀ (f i0 : Nat) (R : List Int) (vR : Value) (w : World), Ext w0 w → Ints w vR R → R.length < f → R.length ≤ 10 → i0 ≤ A.length →
    Calls Tryz.prog 192 #[va, vR, .int .i64 i0] w fun e w' => ∃ v', e = .returned v' ∧ OwnF w w' v' (facF A f i0 R) ∧ Ext w w' := by
  intro f
  induction f with
  | zero => intro i0 R vR w hw hR hf; omega
  | succ f ih =>
    intro i0 R vR w hw hR hf hR10 hi0
    obtain ⟨aoR, cR, adrR, rfl, hlR, hadrR, hcellR⟩ := hR.op
    have HR := Lib.hid hR
    clear hadrR hcellR hlR
    by_cases hR0 : R.length = 0
    · have Hz := Lib.hid (facF_zero (A := A) (f := f) (i0 := i0) hR0)
      have hq : (((R.length : Nat) : Int) == 0) = true := by rw [hR0]; rfl
      clear hR0 ih hR
      have hx := Ext.refl w
      have hO0 : OwnL 22 w (w.alloc (.cells #[] 22)) (.slice (some ⟨w.heap.size, 0, none⟩) 0 0) [] := ownL_made hx
      have hBr : Blk (w.alloc (.cells #[] 22)) w.heap.size 22 #[] := Blk.new _ _ _
      have hex1 := hx.alloc (.cells #[] 22)
      have hO1 : OwnL 107 w ((w.alloc (.cells #[] 22)).alloc (.cells #[.slice (some ⟨w.heap.size, 0, none⟩) 0 0] 107)) (.slice (some ⟨(w.alloc (.cells #[] 22)).heap.size, 0, none⟩) 1 1) [.slice (some ⟨w.heap.size, 0, none⟩) 0 0] := ownL_one hex1 rfl
      have hRw := rowL_made (hBr.ext ((Ext.refl _).alloc (.cells #[.slice (some ⟨w.heap.size, 0, none⟩) 0 0] 107)))
      have hFin := ownF_of hO1 (RowsL.one hRw)
      rw [show (w.alloc (.cells #[] 22)).heap.size = w.heap.size + 1 by simp] at hFin
      clear hO1 hRw hBr hO0
      go_enter Tryz.func192, Tryz.ntmps192
      go_wp2_with fail
      go_ret
      exact ⟨_, rfl, by rw [Hz.out]; exact hFin, hex1.alloc _⟩
    · have Hend := Lib.hid (facF_end (A := A) (f := f) (i0 := i0) hR0)
      have Hst := Lib.hid (facK_start A f i0 R i0 (Nat.le_refl _))
      have hq : (((R.length : Nat) : Int) == 0) = false := by rw [beq_eq_false_iff_ne]; omega
      have hF0 : OwnF w (w.alloc (.cells #[] 107)) (.slice (some ⟨w.heap.size, 0, none⟩) 0 0) [] := ownF_made (Ext.refl w)
      have hx0 := (Ext.refl w).alloc (.cells #[] 107)
      have Hih := Lib.hid ih
      have hRl := hR0
      obtain ⟨aoA, cA, rfl, hcA0, hcA⟩ := HA.out.shape
      have HcA := Lib.hid hcA
      have HBd := Lib.hid (hBd.out (f + 1) i0 R hR10)
      clear hR0 ih hR hcA
      go_enter Tryz.func192, Tryz.ntmps192
      go_wp2_with fail
      go_loopw [7, 8] (fun so si wr => ∃ k : Nat, i0 ≤ k ∧ k ≤ A.length ∧ si = .int .i64 k ∧ OwnF w wr so (facK A f i0 R k) ∧ Ext w wr) (fun _ si _ => A.length - (intOf si).toNat)
      case atStart => exact ⟨i0, Nat.le_refl _, hi0, rfl, by rw [Hst.out]; exact hF0, hx0⟩
      case round =>
        clear hF0 hx0
        obtain ⟨k, hk0, hk, rfl, hF, hE⟩ := hrel
        obtain ⟨aoO, cO, rfl, -⟩ := hF.shape
        have HF := Lib.hid hF
        have HE := Lib.hid hE
        clear hF
        by_cases hlt : k < A.length
        · have hltI : (k : Int) < (A.length : Int) := by omega
          obtain ⟨gA, y, rfl, hcy, hRy⟩ := HcA.out k hlt
          have hixA := rowV_ix elV szV gA A.length cA
          have hE0r := hw.trans hE
          have hcy1 := hE0r.cell hcy
          have HRy := Lib.hid (fun W (hW : Ext w0 W) => (hRy.ext hW).ints)
          have ha1 := h1a _ (getD_in hlt)
          obtain ⟨a, ha⟩ : ∃ a, a = A.getD k [] := ⟨_, rfl⟩
          rw [← ha] at HRy ha1
          have Hno := Lib.hid (facK_no (A := A) (f := f) (i0 := i0) (R := R) (k := k))
          have Hye := Lib.hid (facK_yes (A := A) (f := f) (R := R) hk0)
          rw [← ha] at Hno Hye
          have cM := fun W (hW : Ext w W) => l19Minus_val _ _ R (castL a) W (HR.out.ext hW) (HRy.out W (hw.trans hW))
          have Hcy := Lib.hid hcy
          clear ha hRy hcy
          cases hs : subM R (castL a)
          · have Hn := Lib.hid (Hno.out hs)
            simp only [hs] at cM
            clear hs Hno Hye
            go_wp2_with (go_at_call 118; refine (cM _ hE).mono ?_; rintro e w1 ⟨⟨v1, rfl, -⟩, hE1⟩)
            go_roundw
            case rel => exact ⟨k + 1, by omega, by omega, by go_num, by rw [Hn.out]; exact HF.out.ext hE1, HE.out.trans hE1⟩
            case measure => (simp [intOf]; omega)
          · have Hy := Lib.hid (Hye.out hs)
            simp only [hs] at cM
            have hrl := rem_len a R hs
            have hmono := facK_mono A f i0 R (k + 1) (A.length - (k + 1))
            rw [show k + 1 + (A.length - (k + 1)) = A.length by omega, ← Hend.out, Hy.out] at hmono
            have Hlen := Lib.hid (Nat.le_trans hmono HBd.out)
            have hvals : ∀ x ∈ facF A f k (remL R a), x ≤ 10 := fun x hx => Nat.le_trans (facF_vals A h1a f k (remL R a) x hx) (by omega)
            have cF := fun vN W (hW : Ext w0 W) (hI : Ints W vN (remL R a)) => Hih.out k (remL R a) vN W hW hI (by omega) (by omega) (by omega)
            have hk3 := hk
            obtain ⟨F, hFd⟩ : ∃ F, F = facF A f k (remL R a) := ⟨_, rfl⟩
            have Hri := Lib.hid (remI_cast R a)
            simp only [← hFd] at cF hvals Hlen Hy
            obtain ⟨B, hBd2⟩ : ∃ B, B = facK A f i0 R k := ⟨_, rfl⟩
            have HB := Lib.hid hBd2
            rw [← hBd2] at Hlen Hy
            have HFB : Hid (OwnF w wr (.slice aoO B.length cO) B) := Lib.hid (by rw [hBd2]; exact HF.out)
            have hbl : (facK A f i0 R k).length = B.length := by rw [hBd2]
            rw [hbl]
            clear hs Hno Hye hrl hmono hFd hBd2 HF hbl
            go_wp2_with (first | (go_at_call 118; refine (cM _ hE).mono ?_; rintro e w1 ⟨⟨v1, rfl, hO1⟩, hE1⟩; have hO1' := hO1 trivial; rw [Hri.out] at hO1'; have hE01 := hE0r.trans hE1) | (go_at_call 192; refine (cF _ _ hE01 hO1'.ints).mono ?_; rintro e w2 ⟨v2, rfl, hF2, hE2⟩; obtain ⟨ao2, c2, rfl, -⟩ := hF2.shape))
            have hE12 := hE1.trans hE2
            have HF0 := Lib.hid (HFB.out.ext hE12)
            have hne0 : ∀ g, (Value.slice ao2 F.length c2).ownBlock = some g → (Value.slice aoO B.length cO).ownBlock ≠ some g := fun g hg e => by
              have q1 := (hF2.blk g hg).1
              have q2 := (HFB.out.blk g e).2
              have q3 := hE1.size
              omega
            have hEw2 := HE.out.trans hE12
            have HlF := Lib.hid (show B.length + F.length ≤ 254803968 by have := Hlen.out; simpa using this)
            clear cM cF hO1 hO1'
            go_loopw [7, 12] (fun so sj wq => ∃ j : Nat, j ≤ F.length ∧ sj = .int .i64 j ∧ OwnF w wq so (B ++ (F.take j).map (· + 1)) ∧ OwnF w1 wq (.slice ao2 F.length c2) F ∧ Ext w wq ∧ (∀ g, (Value.slice ao2 F.length c2).ownBlock = some g → so.ownBlock ≠ some g)) (fun _ sj _ => F.length - (intOf sj).toNat)
            case atStart => exact ⟨0, by omega, rfl, by simpa using HF0.out, hF2, hEw2, hne0⟩
            case round =>
              clear hF2 hne0 hEw2 HF0
              rename World => wq
              obtain ⟨j, hj, rfl, hP1, hP2, hE, hP3⟩ := hrel
              have HP1 := Lib.hid hP1
              have HP2 := Lib.hid hP2
              have HP3 := Lib.hid hP3
              have HEq := Lib.hid hE
              obtain ⟨aoQ, cQ, rfl, -⟩ := hP1.shape
              have hlQ : (B ++ (F.take j).map (· + 1)).length = B.length + j := by rw [List.length_append, List.length_map, List.length_take]; omega
              rw [hlQ] at HP1 HP3 ⊢
              clear hP1 hP3 hE hlQ
              by_cases hlj : j < F.length
              · have hljI : (j : Int) < (F.length : Int) := by omega
                obtain ⟨ao3, c3, hv3, -, hc3⟩ := hP2.shape
                simp only [Value.slice.injEq] at hv3
                obtain ⟨rfl, -, rfl⟩ := hv3
                obtain ⟨gF, uF, rfl, hcu, hRu⟩ := hc3 j hlj
                have hixF := rowV_ix elW szW gF F.length c2
                have hF25 : F.length ≤ 254803968 := by have := HlF.out; omega
                have hd10 := hvals _ (show F.getD j 0 ∈ F by simp [List.getD, hlj])
                have HFat := Lib.hid (facF_at hlj)
                obtain ⟨d, hd⟩ : ∃ d, d = F.getD j 0 := ⟨_, rfl⟩
                rw [← hd] at hRu hd10 HFat
                obtain ⟨aoU, cU, rfl⟩ := hRu.shape
                obtain ⟨M, hM1, hM2, hM3⟩ := hRu.cells
                have HM3 := Lib.hid hM3
                have HM1 := Lib.hid hM1
                clear hM1
                have hE0q := hw.trans HEq.out
                have kA := hE0q.cell Hcy.out
                have kA2 := (hE0q.trans ((Ext.refl wq).alloc (.cells #[] 3))).cell Hcy.out
                have hOe : Own 3 wq (wq.alloc (.cells #[] 3)) (.slice (some ⟨wq.heap.size, 0, none⟩) 0 0) [] := own_made (by omega) (Ext.refl wq) [] rfl
                have hEe := (Ext.refl wq).alloc (.cells #[] 3)
                have hIX := HRy.out _ (hE0q.trans hEe)
                have hla : (castL a).length ≤ 17592186044416 := by obtain ⟨_, _, _, _, h', _⟩ := hIX; exact h'
                obtain ⟨L, hL1, hL2, hL3⟩ := HP1.out
                have HL1 := Lib.hid hL1
                have HL3 := Lib.hid hL3
                clear hP2 hc3 hd hRu hM3 hL1 hL3
                go_upto_region 13 with fail
                go_upto_region 14 with (first | (at_builtin; refine wp_appends slI rfl _ _ rfl wq _ _ _ _ _ hOe hIX hEe (by simpa using hla) rfl rfl ?_; intro v1 wA hO1 hE1; rw [List.nil_append] at hO1; obtain ⟨ao1, c1, rfl, -⟩ := hO1.shape))
                have hOB : OwnL 22 wq (wA.alloc (.cells #[.slice ao1 (castL a).length c1] 22)) (.slice (some ⟨wA.heap.size, 0, none⟩) 1 1) [.slice ao1 (castL a).length c1] := ownL_one hE1 rfl
                have hEB := hE1.alloc (.cells #[.slice ao1 (castL a).length c1] 22)
                have hMB := HM3.out.ext hEB
                have kF := hEB.cell hcu
                have hnB : [(Value.slice ao1 (castL a).length c1)].length + M.length ≤ 1000000000000 := by rw [HM1.out, List.length_singleton]; omega
                have hnL : L.length < 1000000000000 := by rw [HL1.out, List.length_append, List.length_map, List.length_take]; have := HlF.out; omega
                clear hOe hIX hEe kA kA2
                go_wp2_with (first | (at_builtin; refine wp_append1L slW rfl _ _ rfl w wD (.slice aoQ (B.length + j) cQ) L (.slice aoD ([(Value.slice ao1 (castL a).length c1)] ++ M).length cD) rfl (hL2.ext hXD) (HEq.out.trans hXD) hnL rfl rfl ?_; intro v5 w5 hO5 hG5 hN5) | (at_builtin; refine wp_appendsL slV rfl _ _ rfl wq _ _ _ _ M hOB hMB hM2 hEB hnB rfl rfl ?_; intro vD wD hOD hGD hND hXD; obtain ⟨aoD, cD, rfl, -⟩ := hOD.shape))
                have hlD : ([(Value.slice ao1 (castL a).length c1)] ++ M).length = d + 1 := by rw [List.length_append, List.length_singleton, HM1.out]; omega
                have hRD := rowL_own hOD (by rw [hlD]; omega)
                have hOF := OwnF.more HL1.out (hL2.ext hXD) (fun i hi => (HL3.out i hi).ext hXD) hRD hO5 hG5
                rw [hlD] at hOF
                go_roundw
                case rel =>
                  refine ⟨j + 1, by omega, by go_num, by rw [HFat.out, ← List.append_assoc]; exact hOF, (HP2.out.ext hXD).kept (hL2.ext hXD) HP3.out hG5, (HEq.out.trans hXD).grown hG5 (fun g hg => (hL2.blk g hg).1), fun g hg e => ?_⟩
                  rcases hN5 with hN5 | hN5
                  · exact HP3.out g hg (by rw [← hN5]; exact e)
                  · have q1 := hN5 g e
                    have q2 := (HP2.out.blk g hg).2
                    have q3 := hXD.size
                    omega
                case measure => (simp [intOf]; omega)
              · have hljI : ¬ (j : Int) < (F.length : Int) := by omega
                have hjl : j = F.length := by omega
                have Hn : Hid (facK A f i0 R (k + 1) = B ++ (F.take j).map (· + 1)) := Lib.hid (by rw [Hy.out, hjl, List.take_length])
                clear hjl
                go_wp2_with fail
                go_roundw
                case rel => exact ⟨k + 1, by omega, by omega, by go_num, by rw [Hn.out]; exact HP1.out, HEq.out⟩
                case measure => (simp [intOf]; omega)
        · have hltI : ¬ (k : Int) < (A.length : Int) := by omega
          have hkl : k = A.length := by omega
          have Hn := Lib.hid (show facF A (f + 1) i0 R = facK A f i0 R k by rw [Hend.out, hkl])
          clear hkl
          go_wp2_with fail
          go_ret
          exact ⟨_, rfl, by rw [Hn.out]; exact HF.out, HE.out⟩
end Go.Zz
