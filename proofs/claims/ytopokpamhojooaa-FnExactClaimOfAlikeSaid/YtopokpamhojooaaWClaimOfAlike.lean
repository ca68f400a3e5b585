/- ClaimOfAlike of the program and of the reference: the walk of the law. -/
import Derived.Test.YtopokpamhojooaaC4
import Derived.Deep.RegionHeld3
import Derived.Deep.RegionWith
import Derived.Deep.DeepCutAuto
import Derived.Test.YtopokpamhojooaaC92
namespace Go.Proofs.Ytopokpamhojooaa
open Go.RowKit Go.Zz
set_option maxHeartbeats 2000000
set_option maxRecDepth 20000
set_option linter.unusedVariables false

theorem ca_len (l m : List Int) (a b : Int) : (caG l m a b).length ≤ max l.length m.length + 24 ∧ (caO l m a b).length ≤ max l.length m.length + 24 ∧ (caT l m a b).length ≤ max l.length m.length + 24 ∧ (caQ l m a b).length ≤ max l.length m.length + 24 := by
  have h4 : (caQ l m a b).length ≤ 24 := by
    unfold caQ; rw [castL_len]; exact ff_len l m a b
  refine ⟨?_, ?_, ?_, by omega⟩
  · unfold caG; split <;> (first | omega | simp)
  · unfold caO; split <;> (first | omega | simp)
  · unfold caT; split
    · have := lo_len l a; omega
    · simp
/-- the claim and the word of a call, behind a region that draws -/
def ClP (w0 : World) (K1 K2 K3 K4 K5 K6 : Int) (R : Bool) (G O T Q : List Int) (s s' : Value) (wx : World) : Prop :=
  ∃ b a1 a2 a3 a4 c1 c2 c3 c4, s = .pointer (some ⟨b, 0, none⟩) ∧ s' = .bool R ∧ w0.heap.size ≤ b ∧ Blk wx b 32 #[.int .i64 K1, .slice a1 G.length c1, .slice a2 O.length c2, .int .i64 K2, .int .i64 K3, .int .i64 K4, .int .i64 K5, .slice a3 T.length c3, .slice a4 Q.length c4, .int .i64 K6] ∧ Ints4 wx (.slice a1 G.length c1) (.slice a2 O.length c2) (.slice a3 T.length c3) (.slice a4 Q.length c4) G O T Q ∧ Ext w0 wx
theorem ClP.of {w0 wS wI : World} {K1 K2 K3 K4 K5 K6 : Int} {R : Bool} {G O T Q : List Int} {a1 a2 a3 a4 : Option Addr} {c1 c2 c3 c4 : Nat} (hE : Ext w0 wS) (hO : Own4 wI wS (.slice a1 G.length c1) (.slice a2 O.length c2) (.slice a3 T.length c3) (.slice a4 Q.length c4) G O T Q) :
    ClP w0 K1 K2 K3 K4 K5 K6 R G O T Q (.pointer (some ⟨wS.heap.size, 0, none⟩)) (.bool R) (wS.alloc (.cells #[.int .i64 K1, .slice a1 G.length c1, .slice a2 O.length c2, .int .i64 K2, .int .i64 K3, .int .i64 K4, .int .i64 K5, .slice a3 T.length c3, .slice a4 Q.length c4, .int .i64 K6] 32)) :=
  ⟨_, _, _, _, _, _, _, _, _, rfl, rfl, hE.size, Blk.new _ _ _, hO.ints.ext ((Ext.refl _).alloc _), hE.alloc _⟩
theorem ClP.of2 {w0 wS wI : World} {K1 K2 K3 K4 K5 K6 : Int} {R : Bool} {G O T Q : List Int} {a1 a2 a3 a4 : Option Addr} {c1 c2 c3 c4 : Nat} {b : Nat} (hE : Ext w0 wS) (hO : Own4 wI wS (.slice a1 G.length c1) (.slice a2 O.length c2) (.slice a3 T.length c3) (.slice a4 Q.length c4) G O T Q)
    (hB : Blk wS b 32 #[.int .i64 0, .slice none 0 0, .slice none 0 0, .int .i64 0, .int .i64 0, .int .i64 0, .int .i64 0, .slice none 0 0, .slice none 0 0, .int .i64 0]) (hb : w0.heap.size ≤ b) :
    ClP w0 K1 K2 K3 K4 K5 K6 R G O T Q (.pointer (some ⟨b, 0, none⟩)) (.bool R) ((((((((((wS.setCell ⟨b, 0, none⟩ (.int .i64 K1)).setCell ⟨b, 1, none⟩ (.slice a1 G.length c1)).setCell ⟨b, 2, none⟩ (.slice a2 O.length c2)).setCell ⟨b, 3, none⟩ (.int .i64 K2)).setCell ⟨b, 4, none⟩ (.int .i64 K3)).setCell ⟨b, 5, none⟩ (.int .i64 K4)).setCell ⟨b, 6, none⟩ (.int .i64 K5)).setCell ⟨b, 7, none⟩ (.slice a3 T.length c3)).setCell ⟨b, 8, none⟩ (.slice a4 Q.length c4)).setCell ⟨b, 9, none⟩ (.int .i64 K6)) := by
  have n1 := hO.h1.ne_blk hB (by decide)
  have n2 := hO.h2.ne_blk hB (by decide)
  have n3 := hO.h3.ne_blk hB (by decide)
  have n4 := hO.h4.ne_blk hB (by decide)
  exact ⟨_, _, _, _, _, _, _, _, _, rfl, rfl, hb, blk10 hB _ _ _ _ _ _ _ _ _ _, ⟨(own10 hO.h1 n1 _ _ _ _ _ _ _ _ _ _).ints, (own10 hO.h2 n2 _ _ _ _ _ _ _ _ _ _).ints, (own10 hO.h3 n3 _ _ _ _ _ _ _ _ _ _).ints, (own10 hO.h4 n4 _ _ _ _ _ _ _ _ _ _).ints⟩, ext10 hE hb _ _ _ _ _ _ _ _ _ _⟩
theorem FnExactClaimOfAlike_walk {v u : Value} {l m : List Int} {w : World} (hv : Ints w v l) (hu : Ints w u m) (a : Int) (_ : -9223372036854775808 ≤ a ∧ a ≤ 9223372036854775807) (b : Int) (_ : -9223372036854775808 ≤ b ∧ b ≤ 9223372036854775807) :
    Calls Try.prog 4 #[.agg #[v], .agg #[u], .int .i64 a, .int .i64 b] w fun e w' => e = .returned (.bool true) ∧ Ext w w' := by
  have hl0 : (caG l m a b : List Int).length ≤ max l.length m.length + 24 ∧ (caO l m a b : List Int).length ≤ max l.length m.length + 24 ∧ (caT l m a b : List Int).length ≤ max l.length m.length + 24 ∧ (caQ l m a b : List Int).length ≤ max l.length m.length + 24 := ca_len l m a b
  obtain ⟨G, hG⟩ : ∃ x : List Int, x = caG l m a b := ⟨_, rfl⟩
  obtain ⟨O, hO⟩ : ∃ x : List Int, x = caO l m a b := ⟨_, rfl⟩
  obtain ⟨T, hT⟩ : ∃ x : List Int, x = caT l m a b := ⟨_, rfl⟩
  obtain ⟨Q, hQ⟩ : ∃ x : List Int, x = caQ l m a b := ⟨_, rfl⟩
  obtain ⟨K1, hK1⟩ : ∃ x : Int, x = caK l m a b := ⟨_, rfl⟩
  obtain ⟨K2, hK2⟩ : ∃ x : Int, x = caA l m a b := ⟨_, rfl⟩
  obtain ⟨K3, hK3⟩ : ∃ x : Int, x = caB l m a b := ⟨_, rfl⟩
  obtain ⟨K4, hK4⟩ : ∃ x : Int, x = 0 := ⟨_, rfl⟩
  obtain ⟨K5, hK5⟩ : ∃ x : Int, x = 0 := ⟨_, rfl⟩
  obtain ⟨K6, hK6⟩ : ∃ x : Int, x = 0 := ⟨_, rfl⟩
  obtain ⟨R, hR⟩ : ∃ x : Bool, x = ffB l m a b := ⟨_, rfl⟩
  have cS : ∀ u' u W, Ints W u' l → Ints W u m → Calls Try.prog 12 #[.agg #[u'], .agg #[u], .int .i64 a, .int .i64 b] W fun e w' => ∃ v1 v2 v3 v4, e = .returned (.tuple #[CV K1 v1 v2 K2 K3 K4 K5 v3 v4 K6, .bool R]) ∧ Own4 W w' v1 v2 v3 v4 G O T Q ∧ Ext W w' := fun u' u W hu' hu => by subst hG hO hT hQ hK1 hK2 hK3 hK4 hK5 hK6 hR; exact sClaimOfAlike_any u' u l m a b W hu' hu
  have cI : ∀ u' u W, Ints W u' l → Ints W u m → Calls Try.prog 14 #[.agg #[u'], .agg #[u], .int .i64 a, .int .i64 b] W fun e w' => ∃ v1 v2 v3 v4, e = .returned (.tuple #[CV K1 v1 v2 K2 K3 K4 K5 v3 v4 K6, .bool R]) ∧ Own4 W w' v1 v2 v3 v4 G O T Q ∧ Ext W w' := fun u' u W hu' hu => by subst hG hO hT hQ hK1 hK2 hK3 hK4 hK5 hK6 hR; exact ClaimOfAlike_any u' u l m a b W hu' hu
  have hlr : G.length ≤ max l.length m.length + 24 ∧ O.length ≤ max l.length m.length + 24 ∧ T.length ≤ max l.length m.length + 24 ∧ Q.length ≤ max l.length m.length + 24 := by rw [hG, hO, hT, hQ]; exact hl0
  clear hl0 hG hO hT hQ hK1 hK2 hK3 hK4 hK5 hK6 hR
  obtain ⟨wb, hwb⟩ : ∃ wb, wb = (w.alloc (.cells #[v] 28)).alloc (.cells #[u] 28) := ⟨_, rfl⟩
  have hE0 : Ext w wb := by rw [hwb]; exact ((Ext.refl _).alloc _).alloc _
  have B0 : Blk wb w.heap.size 28 #[v] := by rw [hwb]; exact (Blk.new _ _ _).alloc _
  have B1 : Blk wb (w.heap.size + 1) 28 #[u] := by rw [hwb]; simpa using Blk.new (w.alloc (.cells #[v] 28)) 28 #[u]
  have b0 : ∀ W, Ext wb W → W.cell? ⟨w.heap.size, 0, none⟩ = some v := fun W hW => (B0.ext hW).cell (i := 0) rfl
  have b1 : ∀ W, Ext wb W → W.cell? ⟨w.heap.size + 1, 0, none⟩ = some u := fun W hW => (B1.ext hW).cell (i := 0) rfl
  have HV := Lib.hid (fun W (hW : Ext wb W) => hv.ext (hE0.trans hW))
  have HU := Lib.hid (fun W (hW : Ext wb W) => hu.ext (hE0.trans hW))
  have hE := Ext.refl wb
  have Hwb := Lib.hid hwb
  clear hv hu hwb B0 B1
  by_cases hs : szL l 1048576 < 0
  · go_enter Try.func4, Try.ntmps4
    go_wp2_with fail
    rw [← Hwb.out]
    refine (szGroup_any _ _ _ _ (HV.out _ hE) (by omega) (by omega)).mono ?_
    rintro e w1 ⟨rfl, hE1⟩
    go_wp2_with fail
    go_ret
    exact ⟨rfl, hE0.trans hE1⟩
  have hs' : 0 ≤ szL l 1048576 := by omega
  have hl20 : l.length ≤ 1048576 ∧ szL l 1048576 ≤ 1048576 := by unfold szL at hs' ⊢; split at hs' <;> (first | omega | (rename_i hq; rw [if_neg hq]; omega) | (rename_i hq; rw [if_pos hq]; omega))
  clear hs
  obtain ⟨L1, hL1⟩ : ∃ x, x = szL l 1048576 := ⟨_, rfl⟩
  rw [← hL1] at hs' hl20
  have cz := fun W hW => szGroup_any v l 1048576 W (HV.out W hW) (by omega) (by omega)
  rw [← hL1] at cz
  clear hL1
  by_cases hs2 : szL m L1 < 0
  · have hnl : ¬ L1 < 0 := by omega
    go_enter Try.func4, Try.ntmps4
    go_wp2_with fail
    rw [← Hwb.out]
    refine (cz _ hE).mono ?_
    rintro e w1 ⟨rfl, hE1⟩
    have kb1 := b1 _ hE1
    go_wp2_with fail
    refine (szGroup_any _ _ _ _ (HU.out _ hE1) (by omega) (by omega)).mono ?_
    rintro e w2 ⟨rfl, hE2⟩
    go_wp2_with fail
    go_ret
    exact ⟨rfl, hE0.trans (hE1.trans hE2)⟩
  · have hs2' : 0 ≤ szL m L1 := by omega
    have hm20 : m.length ≤ 1048576 := by unfold szL at hs2'; split at hs2' <;> omega
    have hnl : ¬ L1 < 0 := by omega
    go_enter Try.func4, Try.ntmps4
    go_wp2_with fail
    rw [← Hwb.out]
    refine (cz _ hE).mono ?_
    rintro e w1 ⟨rfl, hE1⟩
    have kb1 := b1 _ hE1
    go_wp2_with fail
    refine (szGroup_any _ _ _ _ (HU.out _ hE1) (by omega) (by omega)).mono ?_
    rintro e w1' ⟨rfl, hE2⟩
    have hE1b := hE1.trans hE2
    clear cz kb1
    have k0 := fun W (hW : Ext w1' W) => b0 W (hE1b.trans hW)
    have k1 := fun W (hW : Ext w1' W) => b1 W (hE1b.trans hW)
    have tG := fun W (hW : Ext w1' W) => toGroup_any v l W (HV.out W (hE1b.trans hW))
    have tH := fun W (hW : Ext w1' W) => toGroup_any u m W (HU.out W (hE1b.trans hW))
    replace hE := Ext.refl w1'
    go_upto_region 8 with fail
    clear hs2 hs2'
    go_cut [10, 11] (fun s10 s11 wx => ClP w1' K1 K2 K3 K4 K5 K6 R G O T Q s10 s11 wx)
    case first =>
      have hBk := True.intro
      first | (go_region_held3 (fun W => Ext w1' W ∧ W.cell? ⟨w.heap.size, 0, none⟩ = some v ∧ W.cell? ⟨w.heap.size + 1, 0, none⟩ = some u) (exact ⟨(by first | ((with_reducible refine ext10 ?_ ?_ _ _ _ _ _ _ _ _ _ _); rotate_left; (first | exact Nat.le_refl _ | (have q1 := hHG.size; have q2 := hHH.size; omega)); repeat (first | (with_reducible assumption) | (with_reducible exact Ext.refl _) | (with_reducible apply Ext.drew) | (with_reducible apply Ext.alloc) | (with_reducible (apply And.left; assumption)))) | repeat (first | (with_reducible assumption) | (with_reducible exact Ext.refl _) | (with_reducible apply Ext.drew) | (with_reducible apply Ext.alloc) | (with_reducible (apply And.left; assumption)))), k0 _ (by first | ((with_reducible refine ext10 ?_ ?_ _ _ _ _ _ _ _ _ _ _); rotate_left; (first | exact Nat.le_refl _ | (have q1 := hHG.size; have q2 := hHH.size; omega)); repeat (first | (with_reducible assumption) | (with_reducible exact Ext.refl _) | (with_reducible apply Ext.drew) | (with_reducible apply Ext.alloc) | (with_reducible (apply And.left; assumption)))) | repeat (first | (with_reducible assumption) | (with_reducible exact Ext.refl _) | (with_reducible apply Ext.drew) | (with_reducible apply Ext.alloc) | (with_reducible (apply And.left; assumption)))), k1 _ (by first | ((with_reducible refine ext10 ?_ ?_ _ _ _ _ _ _ _ _ _ _); rotate_left; (first | exact Nat.le_refl _ | (have q1 := hHG.size; have q2 := hHH.size; omega)); repeat (first | (with_reducible assumption) | (with_reducible exact Ext.refl _) | (with_reducible apply Ext.drew) | (with_reducible apply Ext.alloc) | (with_reducible (apply And.left; assumption)))) | repeat (first | (with_reducible assumption) | (with_reducible exact Ext.refl _) | (with_reducible apply Ext.drew) | (with_reducible apply Ext.alloc) | (with_reducible (apply And.left; assumption))))⟩) (first | (go_at_call 13; (with_reducible refine Calls.mono (tG _ (by repeat (first | (with_reducible assumption) | (with_reducible exact Ext.refl _) | (with_reducible apply Ext.drew) | (with_reducible apply Ext.alloc) | (with_reducible (apply And.left; assumption))))) ?_); rintro eG wG ⟨vG, rfl, hOG, hXG⟩; have hHG := Ext.trans (a := w1') (by repeat (first | (with_reducible assumption) | (with_reducible exact Ext.refl _) | (with_reducible apply Ext.drew) | (with_reducible apply Ext.alloc) | (with_reducible (apply And.left; assumption)))) hXG; (try (with_reducible have hBk := Blk.ext (Blk.drew (Blk.new w1' 32 #[.int .i64 0, .slice none 0 0, .slice none 0 0, .int .i64 0, .int .i64 0, .int .i64 0, .int .i64 0, .slice none 0 0, .slice none 0 0, .int .i64 0])) hXG))) | (go_at_call 13; (with_reducible refine Calls.mono (tH _ (by repeat (first | (with_reducible assumption) | (with_reducible exact Ext.refl _) | (with_reducible apply Ext.drew) | (with_reducible apply Ext.alloc) | (with_reducible (apply And.left; assumption))))) ?_); rintro eH wH ⟨vH, rfl, hOH, hXH⟩; have hHH := Ext.trans (a := w1') (by repeat (first | (with_reducible assumption) | (with_reducible exact Ext.refl _) | (with_reducible apply Ext.drew) | (with_reducible apply Ext.alloc) | (with_reducible (apply And.left; assumption)))) hXH; have hOG2 := Own.ext (by repeat (first | (with_reducible exact hOG) | (with_reducible apply Own.alloc) | (with_reducible apply Own.drew))) hXH; (try (first | (with_reducible have hBk := Blk.ext hBk hXH) | (with_reducible have hBk := Blk.ext (Blk.new wG 32 #[.int .i64 0, .slice none 0 0, .slice none 0 0, .int .i64 0, .int .i64 0, .int .i64 0, .int .i64 0, .slice none 0 0, .slice none 0 0, .int .i64 0]) hXH)))) | (go_at_call 12; have hOg := hOG2; have hOh := hOH; (with_reducible refine Calls.mono (cS _ _ _ (Own.ints (by repeat (first | (with_reducible exact hOg) | (with_reducible apply Own.alloc) | (with_reducible apply Own.drew)))) (Own.ints (by repeat (first | (with_reducible exact hOh) | (with_reducible apply Own.alloc) | (with_reducible apply Own.drew))))) ?_); rintro eS wS ⟨s1, s2, s3, s4, rfl, hOS, hXS⟩; have hHS := Ext.trans (a := w1') (by repeat (first | (with_reducible assumption) | (with_reducible exact Ext.refl _) | (with_reducible apply Ext.drew) | (with_reducible apply Ext.alloc) | (with_reducible (apply And.left; assumption)))) hXS; (try ((first | (with_reducible have hBk := Blk.ext hBk hXS) | (with_reducible have hBk := Blk.ext (Blk.new wH 32 #[.int .i64 0, .slice none 0 0, .slice none 0 0, .int .i64 0, .int .i64 0, .int .i64 0, .int .i64 0, .slice none 0 0, .slice none 0 0, .int .i64 0]) hXS)); have hRs := hBk.res (n := 10) (by simp); unfold Res at hRs)); obtain ⟨aS1, cS1, rfl, -⟩ := hOS.h1.shape; obtain ⟨aS2, cS2, rfl, -⟩ := hOS.h2.shape; obtain ⟨aS3, cS3, rfl, -⟩ := hOS.h3.shape; obtain ⟨aS4, cS4, rfl, -⟩ := hOS.h4.shape; unfold CV))) | (fail "the region")
      all_goals (go_wp2_with fail; go_meet)
      all_goals
        first | (with_reducible exact ClP.of hHS hOS) | ((with_reducible refine ClP.of2 hHS hOS hBk ?_); have q1 := hHG.size; have q2 := hHH.size; (first | omega | exact Nat.le_refl _))
    case rest =>
    clear k0 k1 tG tH
    obtain ⟨bS, aS1, aS2, aS3, aS4, cS1, cS2, cS3, cS4, rfl, rfl, hbS, BS, hIS, hEc⟩ := hcut
    obtain ⟨wT, hwT⟩ : ∃ wT, wT = wc := ⟨_, rfl⟩
    subst hwT
    have hEa := hE1b.trans hEc
    have kb0 := b0 _ hEa
    clear hEc
    go_wp2_with fail
    refine (toGroup_any _ _ _ (HV.out _ hEa)).mono ?_
    rintro e w2 ⟨v2, rfl, hO2, hE2⟩
    obtain ⟨ao2, c2, rfl, -⟩ := hO2.shape
    have hlen2 := hO2.2
    obtain ⟨wX, hwX⟩ : ∃ wX, wX = w2.alloc (.cells #[.slice ao2 l.length c2] 30) := ⟨_, rfl⟩
    have h2X : Ext w2 wX := by rw [hwX]; exact (Ext.refl _).alloc _
    have hx : ∀ W, Ext wX W → W.cell? ⟨w2.heap.size, 0, none⟩ = some (.slice ao2 l.length c2) := by rw [hwX]; exact box_cell w2 _ _
    have hO2X := hO2.ext h2X
    have hTX := hE2.trans h2X
    have kb1 := b1 _ (hEa.trans hTX)
    rw [hwX] at kb1
    have HwX := Lib.hid hwX
    clear hwX kb0
    go_wp2_with fail
    rw [← HwX.out]
    refine (toGroup_any _ _ _ (HU.out _ (hEa.trans hTX))).mono ?_
    rintro e w2b ⟨v2b, rfl, hOX, hEX⟩
    obtain ⟨aoX, cX, rfl, -⟩ := hOX.shape
    obtain ⟨wXb, hwXb⟩ : ∃ x, x = w2b.alloc (.cells #[.slice aoX m.length cX] 30) := ⟨_, rfl⟩
    have h2Xb : Ext w2b wXb := by rw [hwXb]; exact (Ext.refl _).alloc _
    have hxb : ∀ W, Ext wXb W → W.cell? ⟨w2b.heap.size, 0, none⟩ = some (.slice aoX m.length cX) := by rw [hwXb]; exact box_cell w2b _ _
    have hXXb := hEX.trans h2Xb
    have hOXb := hOX.ext h2Xb
    have kx0 := hx _ hXXb
    rw [hwXb] at kx0
    have HwXb := Lib.hid hwXb
    clear hwXb kb1
    go_wp2_with fail
    rw [← HwXb.out]
    refine (cI _ _ _ (hO2X.ints.ext hXXb) hOXb.ints).mono ?_
    rintro e w3 ⟨g1, g2, g3, g4, rfl, hKG, hE3b⟩
    have hE3 := hXXb.trans hE3b
    have sXXb := hXXb.size
    have sEX := hEX.size
    have s2Xb := h2Xb.size
    have sE3 := hE3b.size
    clear kx0
    obtain ⟨aG1, cG1, rfl, -⟩ := hKG.h1.shape
    obtain ⟨aG2, cG2, rfl, -⟩ := hKG.h2.shape
    obtain ⟨aG3, cG3, rfl, -⟩ := hKG.h3.shape
    obtain ⟨aG4, cG4, rfl, -⟩ := hKG.h4.shape
    have hBl := hKG.below
    unfold CV
    obtain ⟨wY, hwY⟩ : ∃ wY, wY = w3.alloc (.cells #[.int .i64 K1, .slice aG1 G.length cG1, .slice aG2 O.length cG2, .int .i64 K2, .int .i64 K3, .int .i64 K4, .int .i64 K5, .slice aG3 T.length cG3, .slice aG4 Q.length cG4, .int .i64 K6] 32) := ⟨_, rfl⟩
    have h3Y : Ext w3 wY := by rw [hwY]; exact (Ext.refl _).alloc _
    have hsY : w3.heap.size + 1 ≤ wY.heap.size := by rw [hwY]; simp [go_sem]
    have BG : Blk wY w3.heap.size 32 #[.int .i64 K1, .slice aG1 G.length cG1, .slice aG2 O.length cG2, .int .i64 K2, .int .i64 K3, .int .i64 K4, .int .i64 K5, .slice aG3 T.length cG3, .slice aG4 Q.length cG4, .int .i64 K6] := by rw [hwY]; exact Blk.new _ _ _
    have hTY := hE2.trans (h2X.trans (hE3.trans h3Y))
    have HwY := Lib.hid hwY
    have z0 := BG.cell (i := 0) rfl
    have z1 := BG.cell (i := 1) rfl
    have z2 := BG.cell (i := 2) rfl
    have z3 := BG.cell (i := 3) rfl
    have z4 := BG.cell (i := 4) rfl
    have z5 := BG.cell (i := 5) rfl
    have z6 := BG.cell (i := 6) rfl
    have z7 := BG.cell (i := 7) rfl
    have z8 := BG.cell (i := 8) rfl
    have z9 := BG.cell (i := 9) rfl
    have y0 := (BS.ext hTY).cell (i := 0) rfl
    have y1 := (BS.ext hTY).cell (i := 1) rfl
    have y2 := (BS.ext hTY).cell (i := 2) rfl
    have y3 := (BS.ext hTY).cell (i := 3) rfl
    have y4 := (BS.ext hTY).cell (i := 4) rfl
    have y5 := (BS.ext hTY).cell (i := 5) rfl
    have y6 := (BS.ext hTY).cell (i := 6) rfl
    have y7 := (BS.ext hTY).cell (i := 7) rfl
    have y8 := (BS.ext hTY).cell (i := 8) rfl
    have y9 := (BS.ext hTY).cell (i := 9) rfl
    rw [hwY] at z0 z1 z2 z3 z4 z5 z6 z7 z8 z9 y0 y1 y2 y3 y4 y5 y6 y7 y8 y9
    clear hwY
    go_wp2_with fail
    rw [← HwY.out]
    refine (eqClaim_same _ _ _ _ _ _ _ _ _ _ _ _ _ _ _ _ _ _ _ (hKG.ints.ext h3Y) (hIS.ext hTY)).mono ?_
    rintro e w4 ⟨rfl, hE4⟩
    clear z0 z1 z2 z3 z4 z5 z6 z7 z8 z9 y0 y1 y2 y3 y4 y5 y6 y7 y8 y9
    have hX4 := hE3.trans (h3Y.trans hE4)
    have hEw4 := hEa.trans (hTY.trans hE4)
    have hX4b := hE3b.trans (h3Y.trans hE4)
    go_wp2_with fail
    have hx' : ∀ W, Ext w4 W → W.cell? ⟨w2.heap.size, 0, none⟩ = some (.slice ao2 l.length c2) := fun W hW => hx _ (hX4.trans hW)
    have hb0 : ∀ W, Ext w4 W → W.cell? ⟨w.heap.size, 0, none⟩ = some v := fun W hW => b0 _ (hEw4.trans hW)
    have hE := Ext.refl w4
    have hD := (Ext.refl (w4)).drew
    first | (go_region_held3 (fun W => Ext (w4) W ∧ W.cell? ⟨w2.heap.size, 0, none⟩ = some (.slice ao2 l.length c2) ∧ W.cell? ⟨w.heap.size, 0, none⟩ = some v) (exact ⟨(by repeat (first | assumption | exact Ext.refl _ | (apply And.left; assumption) | apply Ext.drew | apply Ext.alloc)), hx' _ (by repeat (first | assumption | exact Ext.refl _ | (apply And.left; assumption) | apply Ext.drew | apply Ext.alloc)), hb0 _ (by repeat (first | assumption | exact Ext.refl _ | (apply And.left; assumption) | apply Ext.drew | apply Ext.alloc))⟩) (first | (go_at_call 13; ((with_reducible refine Calls.mono (toGroup_any _ _ _ (HV.out _ (hEw4.trans (by repeat (first | assumption | exact Ext.refl _ | (apply And.left; assumption) | apply Ext.drew | apply Ext.alloc))))) ?_); rintro e wH0 ⟨v4, rfl, hO4, hX0⟩; have hH0 := Ext.trans (a := w4) (by repeat (first | assumption | exact Ext.refl _ | (apply And.left; assumption) | apply Ext.drew | apply Ext.alloc)) hX0)) | (go_at_call 16; ((with_reducible refine Calls.mono (eqGroup_any _ _ _ _ _ (hO2X.ints.ext (hX4.trans (by repeat (first | assumption | exact Ext.refl _ | (apply And.left; assumption) | apply Ext.drew | apply Ext.alloc)))) hO4.ints) ?_); rintro e wH1 ⟨rfl, hX1⟩; have hH1 := Ext.trans (a := w4) (by repeat (first | assumption | exact Ext.refl _ | (apply And.left; assumption) | apply Ext.drew | apply Ext.alloc)) hX1)))) | (fail "the region with calls")
    obtain ⟨w4b, h44⟩ : ∃ w5, Ext w4 w5 ∧ w5 = wH1 := ⟨_, by repeat (first | assumption | exact Ext.refl _ | (apply And.left; assumption) | apply Ext.drew | apply Ext.alloc), rfl⟩
    obtain ⟨h44, rfl⟩ := h44
    have hX4c := hX4b.trans h44
    have hEw5 := hEw4.trans h44
    clear hX0 hX1 hH0 hH1 hO4 hb0 hD
    go_wp2_with fail
    have hxc : ∀ W, Ext w4b W → W.cell? ⟨w2b.heap.size, 0, none⟩ = some (.slice aoX m.length cX) := fun W hW => hxb _ (hX4c.trans hW)
    have hb1 : ∀ W, Ext w4b W → W.cell? ⟨w.heap.size + 1, 0, none⟩ = some u := fun W hW => b1 _ (hEw5.trans hW)
    have hD := (Ext.refl (w4b)).drew
    first | (go_region_held3 (fun W => Ext (w4b) W ∧ W.cell? ⟨w2b.heap.size, 0, none⟩ = some (.slice aoX m.length cX) ∧ W.cell? ⟨w.heap.size + 1, 0, none⟩ = some u) (exact ⟨(by repeat (first | assumption | exact Ext.refl _ | (apply And.left; assumption) | apply Ext.drew | apply Ext.alloc)), hxc _ (by repeat (first | assumption | exact Ext.refl _ | (apply And.left; assumption) | apply Ext.drew | apply Ext.alloc)), hb1 _ (by repeat (first | assumption | exact Ext.refl _ | (apply And.left; assumption) | apply Ext.drew | apply Ext.alloc))⟩) (first | (go_at_call 13; ((with_reducible refine Calls.mono (toGroup_any _ _ _ (HU.out _ (hEw5.trans (by repeat (first | assumption | exact Ext.refl _ | (apply And.left; assumption) | apply Ext.drew | apply Ext.alloc))))) ?_); rintro e wH0 ⟨v5, rfl, hO5, hX0⟩; have hH0 := Ext.trans (a := w4b) (by repeat (first | assumption | exact Ext.refl _ | (apply And.left; assumption) | apply Ext.drew | apply Ext.alloc)) hX0)) | (go_at_call 16; ((with_reducible refine Calls.mono (eqGroup_any _ _ _ _ _ (hOXb.ints.ext (hX4c.trans (by repeat (first | assumption | exact Ext.refl _ | (apply And.left; assumption) | apply Ext.drew | apply Ext.alloc)))) hO5.ints) ?_); rintro e wH1 ⟨rfl, hX1⟩; have hH1 := Ext.trans (a := w4b) (by repeat (first | assumption | exact Ext.refl _ | (apply And.left; assumption) | apply Ext.drew | apply Ext.alloc)) hX1)))) | (fail "the region with calls")
    obtain ⟨w5, h45⟩ : ∃ w5, Ext w4b w5 ∧ w5 = wH1 := ⟨_, by repeat (first | assumption | exact Ext.refl _ | (apply And.left; assumption) | apply Ext.drew | apply Ext.alloc), rfl⟩
    obtain ⟨h45, rfl⟩ := h45
    have kxb5 := hxc _ h45
    replace h45 := h44.trans h45
    have kx5 := hx' _ h45
    have hT5 := hTY.trans (hE4.trans h45)
    have hY5 := hE4.trans h45
    go_wp2_with fail
    refine (markGroup_any _ _ _ _ _ (hO2X.ext (hX4.trans h45)) (by omega) (by omega)).mono ?_
    rintro e w6 ⟨rfl, hO6, hG6⟩
    have b2 := hO2.blk
    have s2X := h2X.size
    have s3 := hE3.size
    have hKG6 := (hKG.ext (h3Y.trans hY5)).kept hG6 (fun k hk => by have := (b2 k hk).2; omega)
    have hT6 := hT5.grown hG6 (fun k hk => (b2 k hk).1)
    have BG6 := (BG.ext hY5).grown hG6 (fun k hk => by have := (b2 k hk).2; omega)
    have s6 : w3.heap.size + 1 ≤ w6.heap.size := by have := hY5.size; have := hG6.size; omega
    have bX := hOX.blk
    have hOX6 := (hOXb.ext (hE3b.trans (h3Y.trans hY5))).kept_low hG6 (fun k hk => by have := (b2 k hk).2; omega)
    have sE2 := hE2.size
    have kxb6 : w6.cell? ⟨w2b.heap.size, 0, none⟩ = some (.slice aoX m.length cX) := by
      have hbk : Blk w5 w2b.heap.size 30 #[.slice aoX m.length cX] := (show Blk wXb w2b.heap.size 30 #[.slice aoX m.length cX] by rw [HwXb.out]; exact Blk.new _ _ _).ext (hE3b.trans (h3Y.trans hY5))
      exact (hbk.grown hG6 (fun k hk => by have := (b2 k hk).2; omega)).cell (i := 0) rfl
    clear kxb5
    go_wp2_with fail
    refine (markGroup_any _ _ _ _ _ hOX6 (by omega) (by omega)).mono ?_
    rintro e w6b ⟨rfl, hO6b, hG6b⟩
    replace hKG6 := hKG6.kept hG6b (fun k hk => by have := (bX k hk).2; omega)
    replace hT6 := hT6.grown hG6b (fun k hk => by have := (bX k hk).1; omega)
    replace BG6 := BG6.grown hG6b (fun k hk => by have := (bX k hk).2; omega)
    replace s6 : w3.heap.size + 1 ≤ w6b.heap.size := by have := hG6b.size; omega
    clear hO6b hG6b hOX6 kxb6
    have z0 := BG6.cell (i := 0) rfl
    have z1 := BG6.cell (i := 1) rfl
    have z2 := BG6.cell (i := 2) rfl
    have z3 := BG6.cell (i := 3) rfl
    have z4 := BG6.cell (i := 4) rfl
    have z5 := BG6.cell (i := 5) rfl
    have z6 := BG6.cell (i := 6) rfl
    have z7 := BG6.cell (i := 7) rfl
    have z8 := BG6.cell (i := 8) rfl
    have z9 := BG6.cell (i := 9) rfl
    have y0 := (BS.ext hT6).cell (i := 0) rfl
    have y1 := (BS.ext hT6).cell (i := 1) rfl
    have y2 := (BS.ext hT6).cell (i := 2) rfl
    have y3 := (BS.ext hT6).cell (i := 3) rfl
    have y4 := (BS.ext hT6).cell (i := 4) rfl
    have y5 := (BS.ext hT6).cell (i := 5) rfl
    have y6 := (BS.ext hT6).cell (i := 6) rfl
    have y7 := (BS.ext hT6).cell (i := 7) rfl
    have y8 := (BS.ext hT6).cell (i := 8) rfl
    have y9 := (BS.ext hT6).cell (i := 9) rfl
    have hk0 : 0 ≤ 1 + (l.length : Int) + (m.length : Int) := by omega
    clear hx hx' hxb hxc hb1 hX4 hX4b hX4c hD hO6 hG6
    go_wp2_with fail
    refine (eqClaim_same _ _ _ _ _ _ _ _ _ _ _ _ _ _ _ _ _ _ _ hKG6.ints (hIS.ext hT6)).mono ?_
    rintro e w7 ⟨rfl, hE7⟩
    have BG7 := BG6.ext hE7
    clear z0 z1 z2 z3 z4 z5 z6 z7 z8 z9 y0 y1 y2 y3 y4 y5 y6 y7 y8 y9
    have z0 := BG7.cell (i := 0) rfl
    have z1 := BG7.cell (i := 1) rfl
    have z2 := BG7.cell (i := 2) rfl
    have z3 := BG7.cell (i := 3) rfl
    have z4 := BG7.cell (i := 4) rfl
    have z5 := BG7.cell (i := 5) rfl
    have z6 := BG7.cell (i := 6) rfl
    have z7 := BG7.cell (i := 7) rfl
    have z8 := BG7.cell (i := 8) rfl
    have z9 := BG7.cell (i := 9) rfl
    go_wp2_with fail
    refine (markClaim_any _ _ _ _ _ _ _ _ _ _ _ _ _ _ _ _ _ _ (hKG6.ext hE7) hBl (by have := hE7.size; omega) (by omega) (by omega) (by omega) (by omega) (by omega)).mono ?_
    rintro e w8 ⟨rfl, hK8, hX8, -, hB8⟩
    have hT8 := hX8 wT (hT6.trans hE7) (by have := hE2.size; have := h2X.size; omega)
    have BG8 := hB8 _ _ _ (Nat.le_refl _) BG7
    clear z0 z1 z2 z3 z4 z5 z6 z7 z8 z9 hX8 hB8
    have z0 := BG8.cell (i := 0) rfl
    have z1 := BG8.cell (i := 1) rfl
    have z2 := BG8.cell (i := 2) rfl
    have z3 := BG8.cell (i := 3) rfl
    have z4 := BG8.cell (i := 4) rfl
    have z5 := BG8.cell (i := 5) rfl
    have z6 := BG8.cell (i := 6) rfl
    have z7 := BG8.cell (i := 7) rfl
    have z8 := BG8.cell (i := 8) rfl
    have z9 := BG8.cell (i := 9) rfl
    go_wp2_with fail
    refine (heldClaim_any _ _ _ _ _ _ _ _ _ _ _ _ _ _ _ _ hK8.ints (by omega) (by omega) (by omega) (by omega) (by omega) (by omega)).mono ?_
    rintro e w9 ⟨rfl, hE9⟩
    clear z0 z1 z2 z3 z4 z5 z6 z7 z8 z9
    have hE9a := hEa.trans (hT8.trans hE9)
    have k0 := fun W (hW : Ext w9 W) => b0 W (hE9a.trans hW)
    have k1 := fun W (hW : Ext w9 W) => b1 W (hE9a.trans hW)
    have tG := fun W (hW : Ext w9 W) => toGroup_any v l W (HV.out W (hE9a.trans hW))
    have tH := fun W (hW : Ext w9 W) => toGroup_any u m W (HU.out W (hE9a.trans hW))
    have hE := Ext.refl w9
    go_upto_region 31 with fail
    go_cut [19, 20] (fun s19 s20 wx => ClP w9 K1 K2 K3 K4 K5 K6 R G O T Q s19 s20 wx)
    case first =>
      try clear hK8
      try clear BG8
      try clear BG7
      try clear BG6
      try clear hKG6
      try clear hT8
      try clear hE9
      try clear hT6
      try clear hE7
      try clear hIS
      try clear BS
      try clear hEa
      try clear hE2
      try clear hO2
      try clear hlen2
      try clear h2X
      try clear hO2X
      try clear hTX
      try clear HwX
      try clear hEX
      try clear hOX
      try clear h2Xb
      try clear hXXb
      try clear hOXb
      try clear HwXb
      try clear hE3b
      try clear hE3
      try clear sXXb
      try clear sEX
      try clear s2Xb
      try clear sE3
      try clear hKG
      try clear hBl
      try clear h3Y
      try clear hsY
      try clear BG
      try clear hTY
      try clear HwY
      try clear hE4
      try clear hEw4
      try clear h44
      try clear hEw5
      try clear hO5
      try clear hX0
      try clear hH0
      try clear hX1
      try clear hH1
      try clear h45
      try clear kx5
      try clear hT5
      try clear hY5
      try clear b2
      try clear s2X
      try clear s3
      try clear bX
      try clear sE2
      try clear s6
      try clear hk0
      try clear hbS
      try clear hlr
      try clear hl20
      try clear hs'
      try clear hm20
      try clear hnl
      try clear Hwb
      try clear b0
      try clear b1
      try clear HV
      try clear HU
      try clear hE0
      try clear hE9a
      try clear hE1
      try clear hE1b
      try clear cS
      have hBk := True.intro
      first | (go_region_held3 (fun W => Ext w9 W ∧ W.cell? ⟨w.heap.size, 0, none⟩ = some v ∧ W.cell? ⟨w.heap.size + 1, 0, none⟩ = some u) (exact ⟨(by first | ((with_reducible refine ext10 ?_ ?_ _ _ _ _ _ _ _ _ _ _); rotate_left; (first | exact Nat.le_refl _ | (have q1 := hHG.size; have q2 := hHH.size; omega)); repeat (first | (with_reducible assumption) | (with_reducible exact Ext.refl _) | (with_reducible apply Ext.drew) | (with_reducible apply Ext.alloc) | (with_reducible (apply And.left; assumption)))) | repeat (first | (with_reducible assumption) | (with_reducible exact Ext.refl _) | (with_reducible apply Ext.drew) | (with_reducible apply Ext.alloc) | (with_reducible (apply And.left; assumption)))), k0 _ (by first | ((with_reducible refine ext10 ?_ ?_ _ _ _ _ _ _ _ _ _ _); rotate_left; (first | exact Nat.le_refl _ | (have q1 := hHG.size; have q2 := hHH.size; omega)); repeat (first | (with_reducible assumption) | (with_reducible exact Ext.refl _) | (with_reducible apply Ext.drew) | (with_reducible apply Ext.alloc) | (with_reducible (apply And.left; assumption)))) | repeat (first | (with_reducible assumption) | (with_reducible exact Ext.refl _) | (with_reducible apply Ext.drew) | (with_reducible apply Ext.alloc) | (with_reducible (apply And.left; assumption)))), k1 _ (by first | ((with_reducible refine ext10 ?_ ?_ _ _ _ _ _ _ _ _ _ _); rotate_left; (first | exact Nat.le_refl _ | (have q1 := hHG.size; have q2 := hHH.size; omega)); repeat (first | (with_reducible assumption) | (with_reducible exact Ext.refl _) | (with_reducible apply Ext.drew) | (with_reducible apply Ext.alloc) | (with_reducible (apply And.left; assumption)))) | repeat (first | (with_reducible assumption) | (with_reducible exact Ext.refl _) | (with_reducible apply Ext.drew) | (with_reducible apply Ext.alloc) | (with_reducible (apply And.left; assumption))))⟩) (first | (go_at_call 13; (with_reducible refine Calls.mono (tG _ (by repeat (first | (with_reducible assumption) | (with_reducible exact Ext.refl _) | (with_reducible apply Ext.drew) | (with_reducible apply Ext.alloc) | (with_reducible (apply And.left; assumption))))) ?_); rintro eG wG ⟨vG, rfl, hOG, hXG⟩; have hHG := Ext.trans (a := w9) (by repeat (first | (with_reducible assumption) | (with_reducible exact Ext.refl _) | (with_reducible apply Ext.drew) | (with_reducible apply Ext.alloc) | (with_reducible (apply And.left; assumption)))) hXG; (try (with_reducible have hBk := Blk.ext (Blk.drew (Blk.new w9 32 #[.int .i64 0, .slice none 0 0, .slice none 0 0, .int .i64 0, .int .i64 0, .int .i64 0, .int .i64 0, .slice none 0 0, .slice none 0 0, .int .i64 0])) hXG))) | (go_at_call 13; (with_reducible refine Calls.mono (tH _ (by repeat (first | (with_reducible assumption) | (with_reducible exact Ext.refl _) | (with_reducible apply Ext.drew) | (with_reducible apply Ext.alloc) | (with_reducible (apply And.left; assumption))))) ?_); rintro eH wH ⟨vH, rfl, hOH, hXH⟩; have hHH := Ext.trans (a := w9) (by repeat (first | (with_reducible assumption) | (with_reducible exact Ext.refl _) | (with_reducible apply Ext.drew) | (with_reducible apply Ext.alloc) | (with_reducible (apply And.left; assumption)))) hXH; have hOG2 := Own.ext (by repeat (first | (with_reducible exact hOG) | (with_reducible apply Own.alloc) | (with_reducible apply Own.drew))) hXH; (try (first | (with_reducible have hBk := Blk.ext hBk hXH) | (with_reducible have hBk := Blk.ext (Blk.new wG 32 #[.int .i64 0, .slice none 0 0, .slice none 0 0, .int .i64 0, .int .i64 0, .int .i64 0, .int .i64 0, .slice none 0 0, .slice none 0 0, .int .i64 0]) hXH)))) | (go_at_call 14; have hOg := hOG2; have hOh := hOH; (with_reducible refine Calls.mono (cI _ _ _ (Own.ints (by repeat (first | (with_reducible exact hOg) | (with_reducible apply Own.alloc) | (with_reducible apply Own.drew)))) (Own.ints (by repeat (first | (with_reducible exact hOh) | (with_reducible apply Own.alloc) | (with_reducible apply Own.drew))))) ?_); rintro eS wS ⟨s1, s2, s3, s4, rfl, hOS, hXS⟩; have hHS := Ext.trans (a := w9) (by repeat (first | (with_reducible assumption) | (with_reducible exact Ext.refl _) | (with_reducible apply Ext.drew) | (with_reducible apply Ext.alloc) | (with_reducible (apply And.left; assumption)))) hXS; (try ((first | (with_reducible have hBk := Blk.ext hBk hXS) | (with_reducible have hBk := Blk.ext (Blk.new wH 32 #[.int .i64 0, .slice none 0 0, .slice none 0 0, .int .i64 0, .int .i64 0, .int .i64 0, .int .i64 0, .slice none 0 0, .slice none 0 0, .int .i64 0]) hXS)); have hRs := hBk.res (n := 10) (by simp); unfold Res at hRs)); obtain ⟨aS1, cS1, rfl, -⟩ := hOS.h1.shape; obtain ⟨aS2, cS2, rfl, -⟩ := hOS.h2.shape; obtain ⟨aS3, cS3, rfl, -⟩ := hOS.h3.shape; obtain ⟨aS4, cS4, rfl, -⟩ := hOS.h4.shape; unfold CV))) | (fail "the region")
      all_goals (go_wp2_with fail; go_meet)
      all_goals
        first | (with_reducible exact ClP.of hHS hOS) | ((with_reducible refine ClP.of2 hHS hOS hBk ?_); have q1 := hHG.size; have q2 := hHH.size; (first | omega | exact Nat.le_refl _))
    case rest =>
    clear k0 k1 tG tH
    obtain ⟨bH, aH1, aH2, aH3, aH4, cH1, cH2, cH3, cH4, rfl, rfl, hbH, BH, hIH, hEc⟩ := hcut
    have h8C := hE9.trans hEc
    have hTC := hT8.trans h8C
    have z0 := BH.cell (i := 0) rfl
    have z1 := BH.cell (i := 1) rfl
    have z2 := BH.cell (i := 2) rfl
    have z3 := BH.cell (i := 3) rfl
    have z4 := BH.cell (i := 4) rfl
    have z5 := BH.cell (i := 5) rfl
    have z6 := BH.cell (i := 6) rfl
    have z7 := BH.cell (i := 7) rfl
    have z8 := BH.cell (i := 8) rfl
    have z9 := BH.cell (i := 9) rfl
    have y0 := (BS.ext hTC).cell (i := 0) rfl
    have y1 := (BS.ext hTC).cell (i := 1) rfl
    have y2 := (BS.ext hTC).cell (i := 2) rfl
    have y3 := (BS.ext hTC).cell (i := 3) rfl
    have y4 := (BS.ext hTC).cell (i := 4) rfl
    have y5 := (BS.ext hTC).cell (i := 5) rfl
    have y6 := (BS.ext hTC).cell (i := 6) rfl
    have y7 := (BS.ext hTC).cell (i := 7) rfl
    have y8 := (BS.ext hTC).cell (i := 8) rfl
    have y9 := (BS.ext hTC).cell (i := 9) rfl
    go_wp2_with fail
    refine (eqClaim_same _ _ _ _ _ _ _ _ _ _ _ _ _ _ _ _ _ _ _ hIH (hIS.ext hTC)).mono ?_
    rintro e wD ⟨rfl, hED⟩
    clear z0 z1 z2 z3 z4 z5 z6 z7 z8 z9 y0 y1 y2 y3 y4 y5 y6 y7 y8 y9
    have BG9 := BG8.ext (h8C.trans hED)
    have z0 := BG9.cell (i := 0) rfl
    have z1 := BG9.cell (i := 1) rfl
    have z2 := BG9.cell (i := 2) rfl
    have z3 := BG9.cell (i := 3) rfl
    have z4 := BG9.cell (i := 4) rfl
    have z5 := BG9.cell (i := 5) rfl
    have z6 := BG9.cell (i := 6) rfl
    have z7 := BG9.cell (i := 7) rfl
    have z8 := BG9.cell (i := 8) rfl
    have z9 := BG9.cell (i := 9) rfl
    go_wp2_with fail
    refine (heldClaim_any _ _ _ _ _ _ _ _ _ _ _ _ _ _ _ _ (hK8.ints.ext (h8C.trans hED)) (by omega) (by omega) (by omega) (by omega) (by omega) (by omega)).mono ?_
    rintro e wF ⟨rfl, hEF⟩
    go_wp2_with fail
    go_ret
    exact ⟨rfl, hE0.trans (hEa.trans (hTC.trans (hED.trans hEF)))⟩


end Go.Proofs.Ytopokpamhojooaa
