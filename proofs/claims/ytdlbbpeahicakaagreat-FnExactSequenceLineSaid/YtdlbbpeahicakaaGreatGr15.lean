/- The search for atoms: the reference. -/
import Derived.Test.YtdlbbpeahicakaaGreatGr10
import Derived.Test.YtdlbbpeahicakaaGreatGr14
import Derived.Test.YtdlbbpeahicakaaGreatGr4
import Derived.Deep.DeepCutAuto
import Derived.Test.YtdlbbpeahicakaaGreatGr5
namespace Go.Zz
open Go.RowKit Go.Proofs
set_option maxHeartbeats 2000000
set_option maxRecDepth 8000

/-- a row of ints in a block of its own kind, or an empty one -/
def RowE (w : World) (u : Value) (a : List Nat) : Prop := (a = [] ∧ ∃ ao c, u = .slice ao 0 c) ∨ RowB w u a
theorem RowE.ext {w w' : World} {u : Value} {a : List Nat} (h : RowE w u a) (hE : Ext w w') : RowE w' u a := by
  rcases h with h | h
  · exact Or.inl h
  · exact Or.inr (h.ext hE)
theorem RowE.ints {w : World} {u : Value} {a : List Nat} (h : RowE w u a) : Ints w u (castL a) := by
  rcases h with ⟨rfl, ao, c, rfl⟩ | h
  · exact ⟨ao, c, rfl, Nat.zero_le _, by simp [castL], fun i hi => by simp [castL] at hi⟩
  · exact h.ints
theorem RowE.grown {w0 w w' : World} {u v : Value} {a : List Nat} {A : List (List Nat)} (h : RowE w u a) (hO : OwnC w0 w v A) (hg : w.grownBy w' v.ownBlock) : RowE w' u a := by
  rcases h with h | h
  · exact Or.inl h
  · obtain ⟨L, h1, h2, h3⟩ := hO
    exact Or.inr (h.grown h2 (by decide) hg)
theorem RowE.shape {w : World} {u : Value} {a : List Nat} (h : RowE w u a) : ∃ ao c, u = .slice ao a.length c := by
  rcases h with ⟨rfl, ao, c, rfl⟩ | ⟨-, g, cap, cs, rfl, -⟩
  · exact ⟨ao, c, rfl⟩
  · exact ⟨_, cap, rfl⟩
theorem grown_trans {w w1 w2 : World} {o o1 : Option Nat} (h : w.grownBy w1 o) (n : Nw o w o1) (k : w1.grownBy w2 o1) : w.grownBy w2 o :=
  ⟨k.os.trans h.os, k.tape.trans h.tape, k.output.trans h.output, Nat.le_trans h.size k.size, fun i hi hne => by
    rw [k.block i (Nat.lt_of_lt_of_le hi h.size) fun e => ?_, h.block i hi hne]
    rcases n with n | n
    · exact hne (by rw [← n]; exact e)
    · have := n i e.symm; omega⟩
theorem grown_ext {w w1 w2 : World} {o : Option Nat} (h : w.grownBy w1 o) (k : Ext w1 w2) : w.grownBy w2 o :=
  ⟨k.os.trans h.os, k.tape.trans h.tape, k.output.trans h.output, Nat.le_trans h.size k.size, fun i hi hne => by
    rw [k.block i (Nat.lt_of_lt_of_le hi h.size), h.block i hi hne]⟩
theorem grown_refl (w : World) (o : Option Nat) : w.grownBy w o := ⟨rfl, rfl, rfl, Nat.le_refl _, fun _ _ _ => rfl⟩
theorem Ext.gr {w w' : World} (h : Ext w w') (o : Option Nat) : w.grownBy w' o := ⟨h.os, h.tape, h.output, h.size, fun k hk _ => h.block k hk⟩
/-- the row of atoms behind a step -/
def OutA (w0 w : World) (vo : Value) (A : List (List Nat)) (s : Value) (wx : World) : Prop := OwnC w0 wx s A ∧ w.grownBy wx vo.ownBlock ∧ Nw vo.ownBlock w s.ownBlock
theorem sAtoms_any (v : Value) (l : List Int) (Hgr : Hid (isGrp l = true)) (w0 : World) (HI : Hid (∀ W, Ext w0 W → Ints W v l)) :
    ∀ (f : Nat) (X : List Nat) (S m : Nat) (O : List (List Nat)) (vX vo : Value) (w : World), Ext w0 w → RowE w vX X → OwnC w0 w vo O → S < 2 ^ ord l → S.testBit 0 = false → m ≤ ord l → ord l < cnt S + f → X.length ≤ cnt S → (∀ x ∈ X, x < ord l) → O.length + (atR l f X S m).length ≤ 48 →
    Calls Tryz.prog 216 #[.agg #[v], vX, .int .i64 S, .int .i64 m, vo] w fun e w' => ∃ vo', e = .returned vo' ∧ OutA w0 w vo (O ++ atR l f X S m) vo' w' := by
  intro f
  induction f with
  | zero => intro X S m O vX vo w hw hX hO hS h0 hm hf; have := cnt_ord Hgr.out hS; omega
  | succ f ih =>
    intro X S m O vX vo w hw hX hO hS h0 hm hf hXl hXo hK
    have hob := ord_bd Hgr.out
    have hp24 := pow_ord Hgr.out
    have hS24 : S < 2 ^ 24 := Nat.lt_of_lt_of_le hS hp24
    have hcS := cnt_le S
    obtain ⟨aoX, cX, rfl⟩ := hX.shape
    obtain ⟨wb, hwb⟩ : ∃ wb, wb = w.alloc (.cells #[v] 27) := ⟨_, rfl⟩
    have hE0 : Ext w wb := by rw [hwb]; exact (Ext.refl _).alloc _
    have BG : Blk wb w.heap.size 27 #[v] := by rw [hwb]; exact Blk.new _ _ _
    have hb : ∀ W, Ext wb W → W.cell? ⟨w.heap.size, 0, none⟩ = some v := fun W hW => (BG.ext hW).cell (i := 0) rfl
    have hgb := hw.trans hE0
    have hg : ∀ W, Ext wb W → Ints W v l := fun W hW => HI.out W (hgb.trans hW)
    have HXb := Lib.hid (hX.ext hE0)
    have HOb := Lib.hid (hO.ext hE0)
    have HE0 := Lib.hid hE0
    have Hwb := Lib.hid hwb
    have Hih := Lib.hid ih
    have HK := Lib.hid hK
    clear ih hX hO hwb hE0 hK
    have hz : atZ l X < ord l := negF_lt l (isGrp_ords Hgr.out) _
    have hX24 : ∀ x ∈ X, x < 24 := fun x hx => by have := hXo x hx; omega
    have cT := fun W (hW : Ext wb W) => l16Sum_any v _ l X W (hg W hW) (HXb.out.ext hW).ints Hgr (Lib.hid hX24)
    have htot := tot_bd Hgr.out X
    have cN := fun W (hW : Ext wb W) => l2Negate_any v l (tot l X) W (hg W hW) Hgr (by omega)
    have HV : Hid (atV l X m = if atC l X m then [X ++ [atZ l X]] else []) := Lib.hid rfl
    have HC : Hid (atC l X m = ((decide (m ≤ atZ l X) && (decide (X.length ≠ 0) || decide (atZ l X = 0))) && mnB l (X ++ [atZ l X]))) := Lib.hid rfl
    obtain ⟨z, hzd⟩ : ∃ z, z = atZ l X := ⟨_, rfl⟩
    have hzd2 : z = negF l (tot l X) := hzd
    rw [← hzd] at hz HV HC
    simp only [← hzd2] at cN
    have Hz := Lib.hid hzd
    obtain ⟨t, ht⟩ : ∃ t, t = tot l X := ⟨_, rfl⟩
    simp only [← ht] at cT cN
    clear hzd hzd2 ht htot
    have hE := Ext.refl wb
    have hbU := fun U => hb _ (lat_ext wb U)
    go_enter Tryz.func216, Tryz.ntmps216
    go_wp2_with fail
    rw [← Hwb.out]
    (refine wp_region_lat (wb) (by kernel_rfl) (by kernel_rfl) hE ?_); (repeat (go_big_quiet_step (first | (go_at_call 53; with_reducible exact Calls.lat (cT _ (lat_ext wb _))) | (go_at_call 211; with_reducible exact Calls.lat (cN _ (lat_ext wb _)))))); (refine wpQuiet_nil ?_); (intro W hE'); (replace hE := lat_of hE'); (clear hE')
    rename World => w1
    have hbu := hb _ hE
    clear hbU
    obtain ⟨c, hc⟩ : ∃ c, c = (decide (m ≤ z) && (decide (X.length ≠ 0) || decide (z = 0))) := ⟨_, rfl⟩
    rw [← hc] at HC
    go_upto_region 2 with fail
    go_cut [31] (fun s31 wx => wx = w1 ∧ s31 = .bool c)
    case first =>
      have hlI : 0 ≤ ((X.length : Nat) : Int) := by omega
      by_cases p1 : m ≤ z
      · have p1I : (m : Int) ≤ (z : Int) := by omega
        by_cases p2 : X.length = 0
        · have hXn : X = [] := List.eq_nil_of_length_eq_zero p2
          subst hXn
          clear p2
          by_cases p3 : z = 0
          · have hc2 : c = true := by rw [hc, decide_eq_true p1, decide_eq_true p3]; simp
            have p3I : (((z : Nat) : Int) == 0) = true := by rw [p3]; rfl
            clear p1 p3 hc
            go_wp2_with fail
            go_meet
            exact ⟨rfl, by rw [hc2]⟩
          · have hc2 : c = false := by rw [hc]; simp [p3]
            have p3I : (((z : Nat) : Int) == 0) = false := by rw [beq_eq_false_iff_ne]; omega
            clear p1 p3 hc
            go_wp2_with fail
            go_meet
            exact ⟨rfl, by rw [hc2]⟩
        · have p2I : (0 : Int) < ((X.length : Nat) : Int) := by omega
          have hc2 : c = true := by rw [hc, decide_eq_true p1, decide_eq_true (show X.length ≠ 0 from p2)]; rfl
          have hXn : X ≠ [] := fun e => p2 (by rw [e]; rfl)
          clear p1 hc
          go_wp2_with fail
          go_meet
          exact ⟨rfl, by rw [hc2]⟩
      · have p1I : ¬ (m : Int) ≤ (z : Int) := by omega
        have hc2 : c = false := by rw [hc]; simp [p1]
        clear p1 hc
        go_wp2_with fail
        go_meet
        exact ⟨rfl, by rw [hc2]⟩
    case rest =>
      obtain ⟨rfl, rfl⟩ := hcut
      clear hc
      go_upto_if 31 with fail
      have hExt1 : Ext wb wc := hE
      have hlX : (castL X).length ≤ 17592186044416 := by rw [castL_len]; omega
      have hlX2 : (castL X).length < 17592186044416 := by rw [castL_len]; omega
      have hIX := (HXb.out.ext (hE.trans ((Ext.refl wc).alloc (.cells #[] 3)))).ints
      have hOe : Own 3 wc (wc.alloc (.cells #[] 3)) (.slice (some ⟨wc.heap.size, 0, none⟩) 0 0) [] := own_made (by omega) (Ext.refl wc) [] rfl
      have hEe := (Ext.refl wc).alloc (.cells #[] 3)
      have hmY : ∀ x ∈ X ++ [z], x < ord l := fun x hx => by
        rw [List.mem_append, List.mem_singleton] at hx
        rcases hx with hx | rfl
        · exact hXo x hx
        · exact hz
      have cM := fun W vy (hW : Ext wb W) (hy : Ints W vy (castL (X ++ [z]))) => sMinimal_any v vy l (X ++ [z]) W (hg W hW) hy Hgr hmY (by simp; omega)
      obtain ⟨L, hL1, hL2, hL3⟩ := HOb.out.ext hE
      have hLn : L.length < 1000000000000 := by rw [hL1]; have := HK.out; omega
      have HL1 := Lib.hid hL1
      have HL3 := Lib.hid hL3
      have Hsn := Lib.hid (castL_snoc X z)
      have hXl2 : (X ++ [z]).length ≤ 1000 := by simp; omega
      clear hL1 hL3
      go_cut [4] (fun s4 wx => OutA w0 wc vo (O ++ atV l X m) s4 wx)
      case first =>
        cases c
        · have Hv : Hid (atV l X m = []) := Lib.hid (by rw [HV.out, HC.out]; rfl)
          go_wp2_with fail
          go_meet
          exact ⟨by rw [Hv.out, List.append_nil]; exact HOb.out.ext hExt1, grown_refl _ _, Nw.refl _ _⟩
        · cases hmn : mnB l (X ++ [z])
          · have Hv : Hid (atV l X m = []) := Lib.hid (by rw [HV.out, HC.out, hmn]; rfl)
            rw [hmn] at cM
            clear hmn
            go_wp2_with (first | (at_builtin; refine wp_appends slI rfl _ _ rfl wc _ _ _ _ _ hOe hIX hEe (by simpa using hlX) rfl rfl ?_; intro v1 wA hO1 hE1; rw [List.nil_append] at hO1) | (at_builtin; refine wp_append1 slI rfl _ _ rfl wc _ _ _ _ hO1 hE1 hlX2 rfl rfl ?_; intro v2 wB hO2 hE2; rw [← Hsn.out] at hO2; obtain ⟨ao2, c2, rfl, -⟩ := hO2.shape; have hE2b := hE.trans hE2; have hb2 := hb _ hE2b) | (go_at_call 147; refine (cM _ _ hE2b hO2.ints).mono ?_; rintro e w4 ⟨rfl, hE4⟩))
            go_meet
            exact ⟨by rw [Hv.out, List.append_nil]; exact HOb.out.ext (hE2b.trans hE4), (hE2.trans hE4).gr _, Nw.refl _ _⟩
          · have Hv : Hid (atV l X m = [X ++ [z]]) := Lib.hid (by rw [HV.out, HC.out, hmn]; rfl)
            rw [hmn] at cM
            clear hmn
            go_wp2_with (first | (at_builtin; refine wp_appends slI rfl _ _ rfl wc _ _ _ _ _ hOe hIX hEe (by simpa using hlX) rfl rfl ?_; intro v1 wA hO1 hE1; rw [List.nil_append] at hO1) | (at_builtin; refine wp_append1 slI rfl _ _ rfl wc _ _ _ _ hO1 hE1 hlX2 rfl rfl ?_; intro v2 wB hO2 hE2; rw [← Hsn.out] at hO2; obtain ⟨ao2, c2, rfl, -⟩ := hO2.shape; have hE2b := hE.trans hE2; have hb2 := hb _ hE2b) | (go_at_call 147; refine (cM _ _ hE2b hO2.ints).mono ?_; rintro e w4 ⟨rfl, hE4⟩; have hE24 := hE2.trans hE4; have hO4 := hL2.ext hE24; have hX4 := hgb.trans (hE2b.trans hE4); have hR4 := (rowB_own hO2 (by simp) hXl2).ext hE4; have h14 := hR4.one) | (at_builtin; refine wp_append1L slV rfl _ _ rfl w0 _ _ L _ h14 hO4 hX4 hLn rfl rfl ?_; intro v5 w5 hO5 hG5 hN5))
            go_meet
            exact ⟨by rw [Hv.out]; exact OwnC.more HL1.out hO4 (fun i hi => (HL3.out i hi).ext hE24) hR4 hO5 hG5, ExtGo hE24 hG5, (Nw.refl _ _).trans hE24.size hN5⟩
      case rest =>
        obtain ⟨hA1, hA2, hA3⟩ := hcut
        have HA0 : Hid (OutA w0 wb vo (O ++ atV l X m) u4 wc) := Lib.hid ⟨hA1, ExtGo hExt1 hA2, (Nw.refl _ _).trans hExt1.size hA3⟩
        have Hst := Lib.hid (atK_start l f X S m (max 1 m) (Nat.le_refl _))
        have Hend := Lib.hid (atK_end l f X S m)
        have hmx : max 1 m ≤ ord l := by omega
        have hmxI : max (1 : Int) (m : Int) = ((max 1 m : Nat) : Int) := by omega
        obtain ⟨m1, hm1⟩ : ∃ m1, m1 = max 1 m := ⟨_, rfl⟩
        rw [← hm1] at Hst hmx hmxI
        have Hm1 := Lib.hid hm1
        have hneG : vo.ownBlock ≠ some w.heap.size := HOb.out.not BG (by decide)
        have HneG := Lib.hid hneG
        clear hA1 hA2 hA3 hm1 hneG hIX hOe hEe cM hL2 cT cN
        go_upto_region 6 with fail
        go_cut [13] (fun s13 wx => wx = wc ∧ s13 = .int .i64 (m1 : Int))
        case first =>
          go_wp2_with fail
          all_goals
            go_meet
            refine ⟨rfl, ?_⟩
            have := Hm1.out
            congr 1
            omega
        case rest =>
          obtain ⟨rfl, rfl⟩ := hcut
          clear hmxI hExt1 hE hbu
          go_wp2_with fail
          go_loopw [4, 13] (fun so sx wr => ∃ k : Nat, m1 ≤ k ∧ k ≤ ord l ∧ sx = .int .i64 k ∧ OutA w0 wb vo (O ++ atK l f X S m k) so wr) (fun _ sx _ => ord l - (intOf sx).toNat)
          case atStart => exact ⟨m1, Nat.le_refl _, hmx, rfl, by rw [Hst.out]; exact HA0.out⟩
          case round =>
            clear HA0
            rename World => wr
            obtain ⟨k, hk1, hk2, rfl, hA1, hA2, hA3⟩ := hrel
            have hEr := hgb.grown hA2 (fun g hg => (HOb.out.blk g hg).1)
            have BGr := BG.grown hA2 (fun g hg e => HneG.out (by rw [hg, e]))
            have HXr := Lib.hid (HXb.out.grown HOb.out hA2)
            have hgr : ∀ W, Ext wr W → Ints W v l := fun W hW => HI.out W (hEr.trans hW)
            have kG : ∀ W, Ext wr W → W.cell? ⟨w.heap.size, 0, none⟩ = some v := fun W hW => (BGr.ext hW).cell (i := 0) rfl
            have kr := kG wr (Ext.refl wr)
            have cO := l2Order_any v l wr (hgr _ (Ext.refl wr)) Hgr
            have HA1 := Lib.hid hA1
            have HA2 := Lib.hid hA2
            have HA3 := Lib.hid hA3
            clear hA1 hA2 hA3
            by_cases hlt : k < ord l
            · have hltI : (k : Int) < (ord l : Int) := by omega
              have hk24 : k < 24 := by omega
              have hN := nxS_lt Hgr.out hS hlt
              have hNc := nxS_more Hgr.out hS h0 hlt
              have hN24 : nxS l S k < 2 ^ 24 := Nat.lt_of_lt_of_le hN hp24
              have hsh := shiftF_bd Hgr.out S k
              have q1 := ishl_one (n := k) (by omega)
              have q2 : ior (S : Int) (shiftF l S k : Int) = ((S ||| shiftF l S k : Nat) : Int) := ior_nat (by omega) (by omega)
              have q3 : ior ((S ||| shiftF l S k : Nat) : Int) ((pw k : Nat) : Int) = ((nxS l S k : Nat) : Int) := ior_pw (Nat.or_lt_two_pow hS24 hsh) hk24
              have Hno := Lib.hid (fun h => atK_no (l := l) (f := f) (X := X) (S := S) (m := m) (k := k) h)
              have Hye := Lib.hid (fun h => atK_yes (l := l) (f := f) (X := X) (S := S) (m := m) (k := k) (by rw [← Hm1.out]; exact hk1) h)
              have Hmono := Lib.hid (fun d => atK_mono l f X S m (k + 1) d)
              obtain ⟨N, hNd⟩ : ∃ N, N = nxS l S k := ⟨_, rfl⟩
              rw [← hNd] at hN hNc hN24 q3 Hno Hye
              have q4 := iand_one (a := N) (by omega)
              have cS := fun W (hW : Ext wr W) => l3Shift_any v l S k W (hgr _ hW) Hgr hS24 hk24
              clear hNd
              go_wp2_with (go_at_call 59; refine cO.mono ?_; rintro e1 w1 ⟨rfl, hE1⟩)
              have hbx := fun U => kG _ (hE1.trans (lat_ext w1 U))
              have hE := Ext.refl w1
              (refine wp_region_lat (w1) (by kernel_rfl) (by kernel_rfl) hE ?_); (repeat (go_big_quiet_step (first | (go_at_call 143; exact Calls.lat (cS _ (hE1.trans (lat_ext w1 _))))))); (refine wpQuiet_nil ?_); (intro W hE'); (replace hE := lat_of hE'); (clear hE')
              rename World => w2
              have hE2 := hE1.trans hE
              clear hbx cS hE
              cases ht : N.testBit 0
              · have hbit : (((N % 2 : Nat) : Int) == 0) = true := by rw [bit0, ht]; rfl
                have hbit2 : ((N : Int) % 2 == 0) = true := hbit
                have Hy2 := Lib.hid (Hye.out ht)
                have hmX : ∀ x ∈ X ++ [k], x < ord l := fun y hy => by
                  rw [List.mem_append, List.mem_singleton] at hy
                  rcases hy with hy | rfl
                  · exact hXo y hy
                  · exact hlt
                have hcR : ∀ W vN, Ext w2 W → RowE W vN (X ++ [k]) → Calls Tryz.prog 216 #[.agg #[v], vN, .int .i64 N, .int .i64 k, u4] W fun e w' => ∃ vo', e = .returned vo' ∧ OutA w0 W u4 (O ++ atK l f X S m (k + 1)) vo' w' := fun W vN hW hI => by
                  have q := Hih.out (X ++ [k]) N k (O ++ atK l f X S m k) vN u4 W (hEr.trans (hE2.trans hW)) hI (HA1.out.ext (hE2.trans hW)) hN ht (by omega) (by omega) (by simp; omega) hmX (by
                    have h1 := HK.out
                    have h2 := Hmono.out (ord l - (k + 1))
                    rw [show k + 1 + (ord l - (k + 1)) = ord l by omega, ← Hend.out, Hy2.out] at h2
                    rw [List.length_append] at h2 ⊢
                    omega)
                  rw [List.append_assoc, ← Hy2.out] at q
                  exact q
                have HXw := Lib.hid (fun W (hW : Ext w2 W) => (HXr.out.ext (hE2.trans hW)).ints)
                have hln : (castL X).length + [(k : Int)].length ≤ 17592186044416 := by rw [castL_len]; simp; omega
                have hb2 := fun W (hW : Ext w2 W) => kG W (hE2.trans hW)
                have BG2 := BGr.ext hE2
                have hneS : u4.ownBlock ≠ some w.heap.size := HA1.out.not BGr (by decide)
                have HneS := Lib.hid hneS
                have Hcl := Lib.hid (castL_snoc X k)
                have hXk : (X ++ [k]).length ≤ 1000 := by simp; omega
                clear ht hneS hmX
                have hE := Ext.refl w2
                go_wp2_with fail
                first | (go_region_held3 (fun W => W.cell? ⟨w.heap.size, 0, none⟩ = some v) (first | exact hG5 | exact hb2 _ (by repeat (first | (with_reducible assumption) | (with_reducible exact Ext.refl _) | (with_reducible apply Ext.drew) | (with_reducible apply Ext.alloc) | (with_reducible (apply And.left; assumption))))) (first | (go_at_call 216; have hDi := OwnE.own hOD (Ext.refl _); rw [← Hcl.out] at hDi; have hDr := rowB_own hDi (by simp) hXk; have hRE : RowE wD vD (X ++ [k]) := Or.inr hDr; have hCL := hcR wD vD hXD hRE; (with_reducible refine Calls.mono hCL ?_); rintro eF wF ⟨vF, rfl, hAF⟩; have hG5 := ((BG2.ext hXD).grown hAF.2.1 (fun g hg e => HneS.out (by rw [hg, e]))).cell (i := 0) (v := v) rfl) | (have hOq := hOC; refine step_appendsE slI rfl _ _ rfl w2 w2 _ _ (castL X) [(k : Int)] (Or.inr (by first | exact hOC | exact hOC.alloc _ | exact (hOC.alloc _).drew)) (Blk.ints1 (T := 3) (by repeat (first | (with_reducible assumption) | (with_reducible exact Blk.new _ _ _) | ((with_reducible refine Blk.new' ?_); simp [go_sem]; done) | (with_reducible apply Blk.alloc) | (with_reducible apply Blk.drew) | (with_reducible refine Blk.ext ?_ hEC)))) (by repeat (first | (with_reducible assumption) | (with_reducible exact Ext.refl _) | (with_reducible apply Ext.drew) | (with_reducible apply Ext.alloc) | (with_reducible (apply And.left; assumption)))) hln rfl rfl ?_; intro vD wD hOD hXD hTD) | (refine step_copy2 slI rfl _ _ rfl _ _ (castL X) rfl rfl (by repeat (first | (with_reducible assumption) | (with_reducible exact Blk.new _ _ _) | ((with_reducible refine Blk.new' ?_); simp [go_sem]; done) | (with_reducible apply Blk.alloc) | (with_reducible apply Blk.drew))) (HXw.out _ (by repeat (first | (with_reducible assumption) | (with_reducible exact Ext.refl _) | (with_reducible apply Ext.drew) | (with_reducible apply Ext.alloc) | (with_reducible (apply And.left; assumption))))) w2 (by first | exact Nat.le_refl _ | omega | (simp; omega)) (by repeat (first | (with_reducible assumption) | (with_reducible exact Ext.refl _) | (with_reducible apply Ext.drew) | (with_reducible apply Ext.alloc) | (with_reducible (apply And.left; assumption)))) ?_; intro aoC cC wC hOC hZC hEC; have hXC := Ext.trans (a := w2) (by repeat (first | (with_reducible assumption) | (with_reducible exact Ext.refl _) | (with_reducible apply Ext.drew) | (with_reducible apply Ext.alloc) | (with_reducible (apply And.left; assumption)))) hEC))) | (fail "the region")
                all_goals
                  have hFin : OutA w0 w2 u4 (O ++ atK l f X S m (k + 1)) vF wF := ⟨hAF.1, ExtGo hXD hAF.2.1, (Nw.refl _ _).trans (Ext.size hXD) hAF.2.2⟩
                  obtain ⟨hB1, hB2, hB3⟩ := hFin
                  go_wp2_with fail
                  go_roundw
                  case rel => exact ⟨k + 1, by omega, by omega, by go_num, hB1, grown_trans HA2.out HA3.out (ExtGo hE2 hB2), HA3.out.trans HA2.out.size ((Nw.refl _ _).trans hE2.size hB3)⟩
                  case measure => (simp [intOf]; omega)
              · have hbit : (((N % 2 : Nat) : Int) == 0) = false := by rw [bit0, ht]; rfl
                have hbit2 : ((N : Int) % 2 == 0) = false := hbit
                have Hn := Lib.hid (Hno.out ht)
                clear ht
                go_wp2_with fail
                go_roundw
                case rel => exact ⟨k + 1, by omega, by omega, by go_num, by rw [Hn.out]; exact ⟨HA1.out.ext hE2, grown_ext HA2.out hE2, HA3.out⟩⟩
                case measure => (simp [intOf]; omega)
            · have hltI : ¬ (k : Int) < (ord l : Int) := by omega
              have hkl : k = ord l := by omega
              have Hn := Lib.hid (show atR l (f + 1) X S m = atK l f X S m k by rw [Hend.out, hkl])
              clear hkl
              go_wp2_with (go_at_call 59; refine cO.mono ?_; rintro e1 w1 ⟨rfl, hE1⟩)
              go_ret
              exact ⟨_, rfl, by rw [Hn.out]; exact HA1.out.ext hE1, ExtGo HE0.out (grown_ext HA2.out hE1), (Nw.refl _ _).trans HE0.out.size HA3.out⟩
end Go.Zz

/- The order of atoms: cmp.Compare, slices.Compare, the program's comparison, l19Before of the reference. -/
namespace Go.Zz
open Go.RowKit Go.Proofs
set_option maxHeartbeats 2000000
set_option maxRecDepth 8000

theorem drop_cN (L : List Nat) (k : Nat) (h : k < L.length) : L.drop k = nthN L k :: L.drop (k + 1) := by
  rw [List.drop_eq_getElem_cons h]; simp [nthN, List.getD, h]
theorem cmpL_same {a b : List Nat} {k : Nat} (ha : k < a.length) (hb : k < b.length) (h : nthN a k = nthN b k) : cmpL (a.drop k) (b.drop k) = cmpL (a.drop (k + 1)) (b.drop (k + 1)) := by
  rw [drop_cN a k ha, drop_cN b k hb, h]
  conv => lhs; unfold cmpL
  simp
theorem cmpL_lt {a b : List Nat} {k : Nat} (ha : k < a.length) (hb : k < b.length) (h : nthN a k < nthN b k) : cmpL (a.drop k) (b.drop k) = -1 := by
  rw [drop_cN a k ha, drop_cN b k hb]; unfold cmpL; rw [if_pos h]
theorem cmpL_gt {a b : List Nat} {k : Nat} (ha : k < a.length) (hb : k < b.length) (h : nthN b k < nthN a k) : cmpL (a.drop k) (b.drop k) = 1 := by
  rw [drop_cN a k ha, drop_cN b k hb]; unfold cmpL; rw [if_neg (by omega), if_pos h]
theorem cmpL_end {a b : List Nat} {k : Nat} (ha : a.length ≤ k) (hb : b.length ≤ k) : cmpL (a.drop k) (b.drop k) = 0 := by
  rw [List.drop_eq_nil_of_le ha, List.drop_eq_nil_of_le hb]; rfl
theorem cmpCompare_any (a b : Int) (w : World) :
    Calls Tryz.prog 220 #[.int .i64 a, .int .i64 b] w fun e w' => e = .returned (.int .i64 (if a < b then -1 else if b < a then 1 else 0)) ∧ w = w' := by
  have hn : ∀ (x : Int) (W : World), Calls Tryz.prog 218 #[.int .i64 x] W fun e w' => e = .returned (.bool false) ∧ W = w' := fun x W => by
    go_enter Tryz.func218, Tryz.ntmps218
    go_wp2_with fail
    go_ret
    exact ⟨by simp, rfl⟩
  by_cases h1 : a < b
  · rw [if_pos h1]
    go_enter Tryz.func220, Tryz.ntmps220
    go_wp2_with (first | (go_at_call 218; refine (hn _ _).mono ?_; rintro e w' ⟨rfl, rfl⟩))
    go_ret
    exact ⟨rfl, rfl⟩
  · by_cases h2 : b < a
    · rw [if_neg h1, if_pos h2]
      go_enter Tryz.func220, Tryz.ntmps220
      go_wp2_with (first | (go_at_call 218; refine (hn _ _).mono ?_; rintro e w' ⟨rfl, rfl⟩))
      go_ret
      exact ⟨rfl, rfl⟩
    · rw [if_neg h1, if_neg h2]
      go_enter Tryz.func220, Tryz.ntmps220
      go_wp2_with (first | (go_at_call 218; refine (hn _ _).mono ?_; rintro e w' ⟨rfl, rfl⟩))
      go_ret
      exact ⟨rfl, rfl⟩
theorem slicesCompare_eq (u1 u2 : Value) (a b : List Nat) (w : World) (h1 : Ints w u1 (castL a)) (h2 : Ints w u2 (castL b)) (hl : a.length = b.length) :
    Calls Tryz.prog 200 #[u1, u2] w fun e w' => e = .returned (.int .i64 (cmpL a b)) ∧ w = w' := by
  obtain ⟨ao1, c1, adr1, rfl, hadr1, hcell1⟩ := h1.nats
  obtain ⟨ao2, c2, adr2, rfl, hadr2, hcell2⟩ := h2.nats
  have hix1 := ints_index (c := c1) elI szI hadr1
  have hix2 := ints_index (c := c2) elI szI hadr2
  have hlen : a.length ≤ 17592186044416 := by obtain ⟨_, _, _, _, h', _⟩ := h1; simpa [castL_len] using h'
  have HL := Lib.hid hl
  clear hadr1 hadr2 h1 h2 hl
  go_enter Tryz.func200, Tryz.ntmps200
  go_wp2_with fail
  go_loop [11] (fun i => ∃ k : Nat, k ≤ a.length ∧ i = .int .i64 k ∧ Hid (cmpL a b = cmpL (a.drop k) (b.drop k))) (fun i => a.length - (intOf i).toNat)
  case atStart => exact ⟨0, by omega, rfl, Lib.hid rfl⟩
  case round =>
    obtain ⟨k, hk, rfl, H⟩ := hrel
    by_cases hlt : k < a.length
    · have hb : k < b.length := by have := HL.out; omega
      have hltI : (k : Int) < (a.length : Int) := by omega
      have hbI : ¬ (b.length : Int) ≤ (k : Int) := by omega
      have hc1 := hcell1 k w hlt (Ext.refl _)
      have hc2 := hcell2 k w hb (Ext.refl _)
      have cC := cmpCompare_any (nthN a k) (nthN b k) w
      by_cases q1 : nthN a k < nthN b k
      · have Hn : Hid (cmpL a b = -1) := Lib.hid (by rw [H.out, cmpL_lt hlt hb q1])
        rw [if_pos (by omega)] at cC
        clear q1
        go_wp2_with (go_at_call 220; refine cC.mono ?_; rintro e w' ⟨rfl, rfl⟩)
        go_ret
        exact ⟨ret_int Hn.out.symm, rfl⟩
      · by_cases q2 : nthN b k < nthN a k
        · have Hn : Hid (cmpL a b = 1) := Lib.hid (by rw [H.out, cmpL_gt hlt hb q2])
          rw [if_neg (by omega), if_pos (by omega)] at cC
          clear q1 q2
          go_wp2_with (go_at_call 220; refine cC.mono ?_; rintro e w' ⟨rfl, rfl⟩)
          go_ret
          exact ⟨ret_int Hn.out.symm, rfl⟩
        · have Hn : Hid (cmpL a b = cmpL (a.drop (k + 1)) (b.drop (k + 1))) := Lib.hid (by rw [H.out, cmpL_same hlt hb (by omega)])
          rw [if_neg (by omega), if_neg (by omega)] at cC
          clear q1 q2
          go_wp2_with (go_at_call 220; refine cC.mono ?_; rintro e w' ⟨rfl, rfl⟩)
          go_round
          case rel => exact ⟨k + 1, by omega, by go_num, Hn⟩
          case measure => (simp [intOf]; omega)
    · have hkl : k = a.length := by omega
      have Hn : Hid (cmpL a b = 0) := Lib.hid (by rw [H.out, cmpL_end (by omega) (by have := HL.out; omega)])
      have hltI : ¬ (k : Int) < (a.length : Int) := by omega
      have hlq : ¬ (a.length : Int) < (b.length : Int) := by have := HL.out; omega
      clear hkl
      go_wp2_with fail
      go_ret
      exact ⟨ret_int Hn.out.symm, rfl⟩
theorem cmpAtoms_eq (u1 u2 : Value) (a b : List Nat) (w : World) (h1 : Ints w u1 (castL a)) (h2 : Ints w u2 (castL b)) :
    Calls Tryz.prog 199 #[u1, u2] w fun e w' => e = .returned (.int .i64 (cmpA a b)) ∧ w = w' := by
  have hl1 : a.length ≤ 17592186044416 := by obtain ⟨_, _, _, _, h', _⟩ := h1; simpa [castL_len] using h'
  have hl2 : b.length ≤ 17592186044416 := by obtain ⟨_, _, _, _, h', _⟩ := h2; simpa [castL_len] using h'
  have cC := fun h => slicesCompare_eq u1 u2 a b w h1 h2 h
  obtain ⟨ao1, c1, adr1, rfl, -, -⟩ := h1.nats
  obtain ⟨ao2, c2, adr2, rfl, -, -⟩ := h2.nats
  clear h1 h2
  by_cases hl : a.length = b.length
  · have Hv : Hid (cmpA a b = cmpL a b) := Lib.hid (by unfold cmpA; rw [if_pos hl])
    have cD := cC hl
    have hq : (((a.length : Nat) : Int) != ((b.length : Nat) : Int)) = false := by rw [hl]; simp
    clear hl cC
    go_enter Tryz.func199, Tryz.ntmps199
    go_wp2_with (go_at_call 200; refine cD.mono ?_; rintro e w' ⟨rfl, rfl⟩)
    go_ret
    exact ⟨ret_int Hv.out.symm, rfl⟩
  · have Hv : Hid (cmpA a b = (a.length : Int) - (b.length : Int)) := Lib.hid (by unfold cmpA; rw [if_neg hl])
    have hq : (((a.length : Nat) : Int) != ((b.length : Nat) : Int)) = true := by rw [bne_iff_ne]; omega
    clear hl cC
    go_enter Tryz.func199, Tryz.ntmps199
    go_wp2_with fail
    go_ret
    exact ⟨ret_int Hv.out.symm, rfl⟩
theorem sBefore_any (u1 u2 : Value) (a b : List Nat) (w : World) (h1 : Ints w u1 (castL a)) (h2 : Ints w u2 (castL b)) :
    Calls Tryz.prog 217 #[u1, u2] w fun e w' => e = .returned (.bool (decide (cmpA a b < 0))) ∧ Ext w w' := by
  obtain ⟨ao1, c1, adr1, rfl, hadr1, hcell1⟩ := h1.nats
  obtain ⟨ao2, c2, adr2, rfl, hadr2, hcell2⟩ := h2.nats
  have hix1 := ints_index (c := c1) elI szI hadr1
  have hix2 := ints_index (c := c2) elI szI hadr2
  have hlen : a.length ≤ 17592186044416 := by obtain ⟨_, _, _, _, h', _⟩ := h1; simpa [castL_len] using h'
  clear hadr1 hadr2 h1 h2
  have hE := Ext.refl w
  by_cases hl : a.length = b.length
  · have Hv : Hid (cmpA a b = cmpL a b) := Lib.hid (by unfold cmpA; rw [if_pos hl])
    have hq : (((a.length : Nat) : Int) != ((b.length : Nat) : Int)) = false := by rw [hl]; simp
    have HL := Lib.hid hl
    clear hl
    go_enter Tryz.func217, Tryz.ntmps217
    go_wp2_with fail
    go_loopw [5] (fun i wr => ∃ k : Nat, k ≤ a.length ∧ i = .int .i64 k ∧ Hid (cmpL a b = cmpL (a.drop k) (b.drop k)) ∧ Ext w wr) (fun i _ => a.length - (intOf i).toNat)
    case atStart => exact ⟨0, by omega, rfl, Lib.hid rfl, hE⟩
    case round =>
      clear hE
      obtain ⟨k, hk, rfl, H, hE⟩ := hrel
      by_cases hlt : k < a.length
      · have hb : k < b.length := by have := HL.out; omega
        have hltI : (k : Int) < (a.length : Int) := by omega
        have hc1 := fun U => hcell1 k _ hlt (hE.trans (lat_ext wr U))
        have hc2 := fun U => hcell2 k _ hb (hE.trans (lat_ext wr U))
        have Hse := Lib.hid (fun h => cmpL_same hlt hb h)
        have Hlt := Lib.hid (fun h => cmpL_lt hlt hb h)
        have Hgt := Lib.hid (fun h => cmpL_gt hlt hb h)
        obtain ⟨y1, hy1⟩ : ∃ y, y = nthN a k := ⟨_, rfl⟩
        obtain ⟨y2, hy2⟩ : ∃ y, y = nthN b k := ⟨_, rfl⟩
        rw [← hy1, ← hy2] at Hse Hlt Hgt
        have K1 : Hid (∀ W, Ext w W → W.cell? (adr1 k) = some (.int .i64 (y1 : Int))) := Lib.hid (fun W hW => by rw [hy1]; exact hcell1 k W hlt hW)
        have K2 : Hid (∀ W, Ext w W → W.cell? (adr2 k) = some (.int .i64 (y2 : Int))) := Lib.hid (fun W hW => by rw [hy2]; exact hcell2 k W hb hW)
        simp only [← hy1] at hc1
        simp only [← hy2] at hc2
        clear hy1 hy2
        have hEb := hE
        clear hE
        have hE := Ext.refl wr
        by_cases q0 : y1 = y2
        · have qI : ((y1 : Int) != (y2 : Int)) = false := by rw [q0]; simp
          have Hn : Hid (cmpL a b = cmpL (a.drop (k + 1)) (b.drop (k + 1))) := Lib.hid (by rw [H.out, Hse.out q0])
          clear q0
          go_wp2_with fail
          (refine wp_region_lat (wr) (by kernel_rfl) (by kernel_rfl) hE ?_); (repeat (go_big_quiet_step (first | (fail "no call")))); (refine wpQuiet_nil ?_); (intro W hE'); (replace hE := lat_of hE'); (clear hE')
          go_wp2_with fail
          go_roundw
          case rel => exact ⟨k + 1, by omega, by go_num, Hn, hEb.trans hE⟩
          case measure => (simp [intOf]; omega)
        · have qI : ((y1 : Int) != (y2 : Int)) = true := by rw [bne_iff_ne]; omega
          by_cases q1 : y1 < y2
          · have Hn : Hid (decide (cmpA a b < 0) = true) := Lib.hid (by rw [Hv.out, H.out, Hlt.out q1]; rfl)
            have q1I : (y1 : Int) < (y2 : Int) := by omega
            clear q0 q1
            go_wp2_with fail
            (refine wp_region_lat (wr) (by kernel_rfl) (by kernel_rfl) hE ?_); (repeat (go_big_quiet_step (first | (fail "no call")))); (refine wpQuiet_nil ?_); (intro W hE'); (replace hE := lat_of hE'); (clear hE')
            have hE2 := hEb.trans hE
            rename World => w5
            replace hc1 := fun U => K1.out _ (hE2.trans (lat_ext w5 U))
            replace hc2 := fun U => K2.out _ (hE2.trans (lat_ext w5 U))
            clear hE
            have hE := Ext.refl w5
            go_wp2_with fail
            (refine wp_region_lat (w5) (by kernel_rfl) (by kernel_rfl) hE ?_); (repeat (go_big_quiet_step (first | (fail "no call")))); (refine wpQuiet_nil ?_); (intro W hE'); (replace hE := lat_of hE'); (clear hE')
            go_wp2_with fail
            go_ret
            exact ⟨ret_bool Hn.out.symm, hE2.trans hE⟩
          · have Hn : Hid (decide (cmpA a b < 0) = false) := Lib.hid (by rw [Hv.out, H.out, Hgt.out (by omega)]; rfl)
            have q1I : ¬ (y1 : Int) < (y2 : Int) := by omega
            clear q0 q1
            go_wp2_with fail
            (refine wp_region_lat (wr) (by kernel_rfl) (by kernel_rfl) hE ?_); (repeat (go_big_quiet_step (first | (fail "no call")))); (refine wpQuiet_nil ?_); (intro W hE'); (replace hE := lat_of hE'); (clear hE')
            have hE2 := hEb.trans hE
            rename World => w5
            replace hc1 := fun U => K1.out _ (hE2.trans (lat_ext w5 U))
            replace hc2 := fun U => K2.out _ (hE2.trans (lat_ext w5 U))
            clear hE
            have hE := Ext.refl w5
            go_wp2_with fail
            (refine wp_region_lat (w5) (by kernel_rfl) (by kernel_rfl) hE ?_); (repeat (go_big_quiet_step (first | (fail "no call")))); (refine wpQuiet_nil ?_); (intro W hE'); (replace hE := lat_of hE'); (clear hE')
            go_wp2_with fail
            go_ret
            exact ⟨ret_bool (by first | exact Hn.out.symm | (rw [Hn.out]; exact decide_eq_false (by omega))), hE2.trans hE⟩
      · have hkl : k = a.length := by omega
        have Hn : Hid (decide (cmpA a b < 0) = false) := Lib.hid (by rw [Hv.out, H.out, cmpL_end (by omega) (by have := HL.out; omega)]; rfl)
        have hltI : ¬ (k : Int) < (a.length : Int) := by omega
        clear hkl
        go_wp2_with fail
        go_ret
        exact ⟨ret_bool Hn.out.symm, hE⟩
  · have hq : (((a.length : Nat) : Int) != ((b.length : Nat) : Int)) = true := by rw [bne_iff_ne]; omega
    have Hv : Hid (decide (cmpA a b < 0) = decide (((a.length : Nat) : Int) < ((b.length : Nat) : Int))) := Lib.hid (by
      unfold cmpA; rw [if_neg hl]
      rw [Bool.eq_iff_iff, decide_eq_true_iff, decide_eq_true_iff]; omega)
    clear hl
    obtain ⟨d, hd⟩ : ∃ d, d = decide (cmpA a b < 0) := ⟨_, rfl⟩
    go_enter Tryz.func217, Tryz.ntmps217
    go_wp2_with fail
    go_ret
    exact ⟨ret_bool (by rw [Hv.out]; simp), hE⟩
end Go.Zz

/- Rows of slices: copies into fresh rows, cuts, indices. -/
namespace Go.Zz
open Go.RowKit Go.Proofs
set_option maxHeartbeats 1000000
set_option maxRecDepth 4000

theorem OwnL.alloc {TE : TypeId} {w0 w : World} {v : Value} {L : List Value} (h : OwnL TE w0 w v L) (o : Obj) : OwnL TE w0 (w.alloc o) v L := h.ext ((Ext.refl w).alloc o)
theorem OwnL.drew {TE : TypeId} {w0 w : World} {v : Value} {L : List Value} (h : OwnL TE w0 w v L) : OwnL TE w0 w.drew v L := h.ext ((Ext.refl w).drew)
theorem ownL_blk0 {TE : TypeId} {w0 w : World} {g : Nat} (hB : Blk w g TE #[]) (h0 : w0.heap.size ≤ g) : OwnL TE w0 w (.slice (some ⟨g, 0, none⟩) 0 0) [] := by
  have hB' : w.heap[g]? = some (.cells #[] TE (0, 0)) := hB
  exact ⟨by simp, ⟨by simp, Or.inr ⟨g, 0, #[], rfl, h0, hB', Nat.le_refl _, Nat.zero_le _, by simp, by simp⟩⟩, by simp⟩
theorem cellsAt_blk {TE : TypeId} {w : World} {g : Nat} {y : Value} (hB : Blk w g TE #[y]) : CellsAt w (.slice (some ⟨g, 0, none⟩) 1 1) [y] := by
  refine Or.inr ⟨⟨g, 0, none⟩, 1, rfl, fun j x hx => ?_⟩
  have hj : j < 1 := by have := (List.getElem?_eq_some_iff.1 hx).1; simpa using this
  have e0 : j = 0 := by omega
  subst e0
  rw [Addr.add_lit, Nat.zero_add]
  exact hB.cell (i := 0) (by simpa using hx)
theorem CellsAt.ext {w w' : World} {u : Value} {M : List Value} (h : CellsAt w u M) (hE : Ext w w') : CellsAt w' u M := by
  rcases h with h | ⟨ad, c, rfl, hc⟩
  · exact Or.inl h
  · exact Or.inr ⟨ad, c, rfl, fun j x hx => hE.cell (hc j x hx)⟩
theorem cells_take {w : World} {ao : Option Addr} {n c : Nat} {M : List Value} (h : CellsAt w (.slice ao n c) M) {k : Nat} (hk : k ≤ M.length) (hn : M.length = n) : CellsAt w (.slice ao k c) (M.take k) := by
  have hl : (M.take k).length = k := by rw [List.length_take]; omega
  rcases h with ⟨hv, rfl⟩ | ⟨ad, c', hv, hc⟩
  · simp only [Value.slice.injEq] at hv
    obtain ⟨rfl, -, rfl⟩ := hv
    have : k = 0 := by simpa using hk
    subst this
    exact Or.inl ⟨rfl, by simp⟩
  · simp only [Value.slice.injEq] at hv
    obtain ⟨rfl, -, rfl⟩ := hv
    refine Or.inr ⟨ad, c, by rw [hl], fun j x hx => hc j x ?_⟩
    have hj : j < k := by have := (List.getElem?_eq_some_iff.1 hx).1; omega
    rwa [List.getElem?_take_of_lt hj] at hx
theorem cells_drop {w : World} {ao : Option Addr} {n c : Nat} {M : List Value} (h : CellsAt w (.slice ao n c) M) {k : Nat} (hk : k ≤ M.length) (hn : M.length = n) (hc0 : n ≤ c) : CellsAt w (tailV ao n c k) (M.drop k) := by
  have hl : (M.drop k).length = n - k := by rw [List.length_drop]; omega
  rcases h with ⟨hv, rfl⟩ | ⟨ad, c', hv, hc⟩
  · simp only [Value.slice.injEq] at hv
    obtain ⟨rfl, rfl, rfl⟩ := hv
    refine Or.inl ⟨?_, by simp⟩
    unfold tailV; split <;> simp
  · simp only [Value.slice.injEq] at hv
    obtain ⟨rfl, -, rfl⟩ := hv
    unfold tailV
    by_cases e : c = k
    · rw [if_pos e]
      refine Or.inr ⟨ad, c - k, by rw [hl], fun j x hx => ?_⟩
      have := (List.getElem?_eq_some_iff.1 hx).1; omega
    · rw [if_neg e]
      refine Or.inr ⟨ad.add k, c - k, by rw [hl]; rfl, fun j x hx => ?_⟩
      rw [show (ad.add k).add j = ad.add (k + j) by unfold Addr.add; by_cases h1 : k = 0 <;> by_cases h2 : j = 0 <;> simp [h1, h2, Nat.add_assoc]]
      exact hc _ x (by rwa [List.getElem?_drop] at hx)
theorem rowV_ix {T : TypeId} (hT : Tryz.prog.underlying T = some (.slice (Tryz.prog.elem T))) (hs : ∀ w, (Go.sizeOf (Tryz.prog.elem T)).run Tryz.prog w = .ok 1 w) (g n c : Nat) : ∀ (i : Nat) W, i < n → (Instr.indexAt T (.slice (some ⟨g, 0, none⟩) n c) (.int .i64 (i : Int))).run Tryz.prog W = .ok (.pointer (some ⟨g, i, none⟩)) W := fun i W hi => by
  rw [run_indexAt_slice (h := hT), if_pos (by omega), hs]
  simp [Result.andThen, Addr.add_lit]
section
variable {ops : Array Oper} {rest : List Oper} {o : Oper} {a : Act} {Q : Exit → Act → World → Prop} {TS TE : TypeId}
theorem step_copyL {K : Act → World → Prop} {E : Prop} {w : World} (hT : SlT TS TE) (hg : o.guard = none) (s x : Operand) (hop : o.op = Op.call { callee := Callee.builtin Builtin.append, args := #[s, x], argTypes := #[TS, TS] })
    (g : Nat) (u : Value) (M : List Value) (hs : a.eval s = .slice (some ⟨g, 0, none⟩) 0 0) (hx : a.eval x = u) (hB : Blk w g TE #[]) (hI : CellsAt w u M) (hM1 : ∀ u ∈ M, u.oneCell' = true) (w0 : World) (h0 : w0.heap.size ≤ g) (hE : Ext w0 w) (hn : M.length ≤ 1000000000000)
    (hK : ∀ v' w', OwnL TE w0 w' v' M → Ext w0 w' → w.grownBy w' (some g) → K (a.put o.dst v') w') :
    if Region.wanted o (yielded ops a.tmps) = true then Oper.wp Tryz.prog o a w K Q else E :=
  step_appendsL hT hg s x hop w0 _ u [] M (ownL_blk0 hB h0) hI hM1 hE (by simpa using hn) hs hx fun v' w' h1 h3 _ h2 => hK v' w' (by simpa using h1) h2 h3
end
/-- rows that read as A -/
def RowsB (w : World) (L : List Value) (A : List (List Nat)) : Prop := L.length = A.length ∧ ∀ i, i < A.length → RowB w (L.getD i (.slice none 0 0)) (A.getD i [])
theorem RowsB.ext {w w' : World} {L : List Value} {A : List (List Nat)} (h : RowsB w L A) (hE : Ext w w') : RowsB w' L A := ⟨h.1, fun i hi => (h.2 i hi).ext hE⟩
theorem RowsB.one {w : World} {u : Value} {a : List Nat} (h : RowB w u a) : RowsB w [u] [a] := ⟨rfl, fun i hi => by
  have : i = 0 := by simp at hi; omega
  subst this; exact h⟩
theorem RowsB.append {w : World} {L M : List Value} {A B : List (List Nat)} (h : RowsB w L A) (k : RowsB w M B) : RowsB w (L ++ M) (A ++ B) := by
  refine ⟨by rw [List.length_append, List.length_append, h.1, k.1], fun i hi => ?_⟩
  have hl := h.1
  by_cases e : i < A.length
  · have e1 : (L ++ M).getD i (.slice none 0 0) = L.getD i (.slice none 0 0) := by simp [List.getD, List.getElem?_append_left (show i < L.length by omega)]
    have e2 : (A ++ B).getD i [] = A.getD i [] := by simp [List.getD, List.getElem?_append_left e]
    rw [e1, e2]; exact h.2 i e
  · have e1 : (L ++ M).getD i (.slice none 0 0) = M.getD (i - A.length) (.slice none 0 0) := by simp [List.getD, List.getElem?_append_right (show L.length ≤ i by omega), hl]
    have e2 : (A ++ B).getD i [] = B.getD (i - A.length) [] := by simp [List.getD, List.getElem?_append_right (show A.length ≤ i by omega)]
    rw [e1, e2]
    exact k.2 _ (by rw [List.length_append] at hi; omega)
theorem RowsB.take {w : World} {L : List Value} {A : List (List Nat)} (h : RowsB w L A) (k : Nat) : RowsB w (L.take k) (A.take k) := by
  refine ⟨by rw [List.length_take, List.length_take, h.1], fun i hi => ?_⟩
  rw [List.length_take] at hi
  have e1 : (L.take k).getD i (.slice none 0 0) = L.getD i (.slice none 0 0) := by simp [List.getD, List.getElem?_take_of_lt (show i < k by omega)]
  have e2 : (A.take k).getD i [] = A.getD i [] := by simp [List.getD, List.getElem?_take_of_lt (show i < k by omega)]
  rw [e1, e2]; exact h.2 i (by omega)
theorem RowsB.drop {w : World} {L : List Value} {A : List (List Nat)} (h : RowsB w L A) (k : Nat) : RowsB w (L.drop k) (A.drop k) := by
  refine ⟨by rw [List.length_drop, List.length_drop, h.1], fun i hi => ?_⟩
  rw [List.length_drop] at hi
  have e1 : (L.drop k).getD i (.slice none 0 0) = L.getD (k + i) (.slice none 0 0) := by simp [List.getD, List.getElem?_drop]
  have e2 : (A.drop k).getD i [] = A.getD (k + i) [] := by simp [List.getD, List.getElem?_drop]
  rw [e1, e2]; exact h.2 _ (by omega)
theorem RowsB.all {w : World} {L : List Value} {A : List (List Nat)} (h : RowsB w L A) : ∀ u ∈ L, u.oneCell' = true := fun u hu => by
  obtain ⟨i, hi, rfl⟩ := List.getElem_of_mem hu
  have := h.2 i (by rw [← h.1]; exact hi)
  simpa [List.getD, hi] using this.one
theorem OwnC.rows {w0 w : World} {v : Value} {A : List (List Nat)} (h : OwnC w0 w v A) : ∃ L, OwnL 22 w0 w v L ∧ RowsB w L A := by
  obtain ⟨L, h1, h2, h3⟩ := h; exact ⟨L, h2, h1, h3⟩
theorem ownC_of {w0 w : World} {v : Value} {A : List (List Nat)} {L : List Value} (h : OwnL 22 w0 w v L) (k : RowsB w L A) : OwnC w0 w v A := ⟨L, k.1, h, k.2⟩
theorem OwnL.getD {TE : TypeId} {w0 w : World} {v : Value} {L : List Value} (h : OwnL TE w0 w v L) : ∀ u ∈ L, u.oneCell' = true := h.1
end Go.Zz
