/- ClaimOfAlike of both. -/
import Derived.Test.YtopokpamhojooaaC91
import Derived.Test.YtopokpamhojooaaLo
import Derived.Test.YtopokpamhojooaaC38
namespace Go.Zz
open Go.RowKit Go.Proofs
set_option maxHeartbeats 2000000
set_option maxRecDepth 20000

def caK (g h : List Int) (a b : Int) : Int := if ffB g h a b then 5 else 0
def caA (g h : List Int) (a b : Int) : Int := if ffB g h a b then a else 0
def caB (g h : List Int) (a b : Int) : Int := if ffB g h a b then b else 0
def caG (g h : List Int) (a b : Int) : List Int := if ffB g h a b then g else []
def caO (g h : List Int) (a b : Int) : List Int := if ffB g h a b then h else []
def caT (g h : List Int) (a b : Int) : List Int := if ffB g h a b then loF g a else []
def caQ (g h : List Int) (a b : Int) : List Int := castL (ffL g h a b)
theorem ca_no {g h : List Int} {a b : Int} (e : ffB g h a b = false) : caK g h a b = 0 ∧ caA g h a b = 0 ∧ caB g h a b = 0 ∧ caG g h a b = [] ∧ caO g h a b = [] ∧ caT g h a b = [] ∧ caQ g h a b = [] := by
  have hl : ffL g h a b = [] := by
    unfold ffB at e; unfold ffL
    cases hr : ffR g h a b with
    | none => rfl
    | some N => rw [hr] at e; cases e
  unfold caK caA caB caG caO caT caQ; rw [e, hl]; exact ⟨rfl, rfl, rfl, rfl, rfl, rfl, rfl⟩
theorem ca_yes {g h : List Int} {a b : Int} (e : ffB g h a b = true) : caK g h a b = 5 ∧ caA g h a b = a ∧ caB g h a b = b ∧ caG g h a b = g ∧ caO g h a b = h ∧ caT g h a b = loF g a := by
  unfold caK caA caB caG caO caT; rw [e]; exact ⟨rfl, rfl, rfl, rfl, rfl, rfl⟩
theorem ffB_set {g h : List Int} {a b : Int} (e : ffB g h a b = true) : isSetB g a = true := by
  unfold ffB ffR at e
  by_cases hc : ffC g h a b = true
  · unfold ffC at hc; simp only [Bool.and_eq_true] at hc; exact hc.1.1
  · rw [if_neg hc] at e; cases e
theorem lo_len (l : List Int) (a : Int) : (loF l a).length ≤ 24 := by
  unfold loF
  split
  · rw [castL_len]; exact elems_len _
  · simp
theorem ff_len (g h : List Int) (a b : Int) : (ffL g h a b).length ≤ 24 := by
  unfold ffL
  cases hr : ffR g h a b with
  | none => simp
  | some N =>
    unfold ffR at hr
    split at hr
    · have := (fiI_ext g h _ _ _ _ _ hr).2.1
      show N.length ≤ 24
      rw [this]; exact elems_len _
    · cases hr
theorem blk10 {w : World} {b : Nat} {T : TypeId} {y0 y1 y2 y3 y4 y5 y6 y7 y8 y9 : Value} (h : Blk w b T #[y0, y1, y2, y3, y4, y5, y6, y7, y8, y9]) (x0 x1 x2 x3 x4 x5 x6 x7 x8 x9 : Value) :
    Blk ((((((((((w.setCell ⟨b, 0, none⟩ x0).setCell ⟨b, 1, none⟩ x1).setCell ⟨b, 2, none⟩ x2).setCell ⟨b, 3, none⟩ x3).setCell ⟨b, 4, none⟩ x4).setCell ⟨b, 5, none⟩ x5).setCell ⟨b, 6, none⟩ x6).setCell ⟨b, 7, none⟩ x7).setCell ⟨b, 8, none⟩ x8).setCell ⟨b, 9, none⟩ x9) b T #[x0, x1, x2, x3, x4, x5, x6, x7, x8, x9] := by
  have h0 : Blk _ b T #[x0, y1, y2, y3, y4, y5, y6, y7, y8, y9] := h.set 0 x0
  have h1 : Blk _ b T #[x0, x1, y2, y3, y4, y5, y6, y7, y8, y9] := h0.set 1 x1
  have h2 : Blk _ b T #[x0, x1, x2, y3, y4, y5, y6, y7, y8, y9] := h1.set 2 x2
  have h3 : Blk _ b T #[x0, x1, x2, x3, y4, y5, y6, y7, y8, y9] := h2.set 3 x3
  have h4 : Blk _ b T #[x0, x1, x2, x3, x4, y5, y6, y7, y8, y9] := h3.set 4 x4
  have h5 : Blk _ b T #[x0, x1, x2, x3, x4, x5, y6, y7, y8, y9] := h4.set 5 x5
  have h6 : Blk _ b T #[x0, x1, x2, x3, x4, x5, x6, y7, y8, y9] := h5.set 6 x6
  have h7 : Blk _ b T #[x0, x1, x2, x3, x4, x5, x6, x7, y8, y9] := h6.set 7 x7
  have h8 : Blk _ b T #[x0, x1, x2, x3, x4, x5, x6, x7, x8, y9] := h7.set 8 x8
  exact h8.set 9 x9
theorem own10 {w w0 : World} {b : Nat} {TI : TypeId} {v : Value} {l : List Int} (h : Own TI w0 w v l) (hn : v.ownBlock ≠ some b) (x0 x1 x2 x3 x4 x5 x6 x7 x8 x9 : Value) :
    Own TI w0 ((((((((((w.setCell ⟨b, 0, none⟩ x0).setCell ⟨b, 1, none⟩ x1).setCell ⟨b, 2, none⟩ x2).setCell ⟨b, 3, none⟩ x3).setCell ⟨b, 4, none⟩ x4).setCell ⟨b, 5, none⟩ x5).setCell ⟨b, 6, none⟩ x6).setCell ⟨b, 7, none⟩ x7).setCell ⟨b, 8, none⟩ x8).setCell ⟨b, 9, none⟩ x9) v l :=
  (((((((((h.setCell_ne hn x0).setCell_ne hn x1).setCell_ne hn x2).setCell_ne hn x3).setCell_ne hn x4).setCell_ne hn x5).setCell_ne hn x6).setCell_ne hn x7).setCell_ne hn x8).setCell_ne hn x9
theorem ext10 {w w0 : World} {b : Nat} (h : Ext w0 w) (hb : w0.heap.size ≤ b) (x0 x1 x2 x3 x4 x5 x6 x7 x8 x9 : Value) :
    Ext w0 ((((((((((w.setCell ⟨b, 0, none⟩ x0).setCell ⟨b, 1, none⟩ x1).setCell ⟨b, 2, none⟩ x2).setCell ⟨b, 3, none⟩ x3).setCell ⟨b, 4, none⟩ x4).setCell ⟨b, 5, none⟩ x5).setCell ⟨b, 6, none⟩ x6).setCell ⟨b, 7, none⟩ x7).setCell ⟨b, 8, none⟩ x8).setCell ⟨b, 9, none⟩ x9) :=
  (((((((((h.setCell hb x0).setCell hb x1).setCell hb x2).setCell hb x3).setCell hb x4).setCell hb x5).setCell hb x6).setCell hb x7).setCell hb x8).setCell hb x9
theorem ClaimOfAlike_any (v u : Value) (g h : List Int) (a b : Int) (w : World) (hv : Ints w v g) (hu : Ints w u h) :
    Calls Try.prog 14 #[.agg #[v], .agg #[u], .int .i64 a, .int .i64 b] w fun e w' => ∃ v1 v2 v3 v4, e = .returned (.tuple #[CV (caK g h a b) v1 v2 (caA g h a b) (caB g h a b) 0 0 v3 v4 0, .bool (ffB g h a b)]) ∧ Own4 w w' v1 v2 v3 v4 (caG g h a b) (caO g h a b) (caT g h a b) (caQ g h a b) ∧ Ext w w' := by
  obtain ⟨wb, hwb⟩ : ∃ wb, wb = (w.alloc (.cells #[v] 30)).alloc (.cells #[u] 30) := ⟨_, rfl⟩
  have hE0 : Ext w wb := by rw [hwb]; exact ((Ext.refl _).alloc _).alloc _
  have B0 : Blk wb w.heap.size 30 #[v] := by rw [hwb]; exact (Blk.new _ _ _).alloc _
  have B1 : Blk wb (w.heap.size + 1) 30 #[u] := by rw [hwb]; simpa using Blk.new (w.alloc (.cells #[v] 30)) 30 #[u]
  have b0 : ∀ W, Ext wb W → W.cell? ⟨w.heap.size, 0, none⟩ = some v := fun W hW => (B0.ext hW).cell (i := 0) rfl
  have b1 : ∀ W, Ext wb W → W.cell? ⟨w.heap.size + 1, 0, none⟩ = some u := fun W hW => (B1.ext hW).cell (i := 0) rfl
  have HV := Lib.hid (fun W (hW : Ext wb W) => hv.ext (hE0.trans hW))
  have HU := Lib.hid (fun W (hW : Ext wb W) => hu.ext (hE0.trans hW))
  have hE := Ext.refl wb
  have Hwb := Lib.hid hwb
  clear hv hu hwb B0 B1
  obtain ⟨wc, hwc⟩ : ∃ wc, wc = wb.alloc (.cells #[.int .i64 0, .slice none 0 0, .slice none 0 0, .int .i64 0, .int .i64 0, .int .i64 0, .int .i64 0, .slice none 0 0, .slice none 0 0, .int .i64 0] 32) := ⟨_, rfl⟩
  have hBc : Blk wc wb.heap.size 32 #[.int .i64 0, .slice none 0 0, .slice none 0 0, .int .i64 0, .int .i64 0, .int .i64 0, .int .i64 0, .slice none 0 0, .slice none 0 0, .int .i64 0] := by rw [hwc]; exact Blk.new _ _ _
  have hRc : Res wc wb.heap.size 10 := hBc.res (by simp)
  have hAc : Ext wb wc := by rw [hwc]; exact hE.alloc _
  replace hE := Ext.refl wc
  have Hsz2 : Hid (wb.heap.size + 1 = wc.heap.size) := Lib.hid (by rw [hwc]; simp [go_sem])
  have Hwc := Lib.hid hwc
  clear hwc hBc
  have hwc : wb.heap.size < wc.heap.size := by have := Hsz2.out; omega
  have Hsz : Hid (w.heap.size + 1 + 1 = wb.heap.size) := Lib.hid (by rw [Hwb.out]; simp [go_sem])
  have cF := fun W (hW : Ext wc W) => FindFreimanIso_any v u g h a b W (HV.out W (hAc.trans hW)) (HU.out W (hAc.trans hW))
  have c0 := fun W (hW : Ext wc W) => b0 W (hAc.trans hW)
  have c1 := fun W (hW : Ext wc W) => b1 W (hAc.trans hW)
  cases hs : ffB g h a b
  · have Hs := Lib.hid (ca_no hs)
    rw [hs] at cF
    clear hs
    go_enter Try.func14, Try.ntmps14
    go_wp2_with fail
    rw [← Hwb.out, ← Hwc.out]; rw [Hsz.out]
    refine (cF _ hE).mono ?_
    rintro e w1 ⟨vM, rfl, -, hE1⟩
    have hr := hRc.ext hE1
    unfold Res at hr
    go_wp2_with fail
    exact bodyPost_ret (v := .tuple #[CV 0 (.slice none 0 0) (.slice none 0 0) 0 0 0 0 (.slice none 0 0) (.slice none 0 0) 0, .bool false]) (by simp [results, Try.results14, go_sem, hr, CV]) rfl ⟨_, _, _, _, by rw [Hs.out.1, Hs.out.2.1, Hs.out.2.2.1], by rw [Hs.out.2.2.2.1, Hs.out.2.2.2.2.1, Hs.out.2.2.2.2.2.1, Hs.out.2.2.2.2.2.2]; exact ⟨Own.nil _ _ _, Own.nil _ _ _, Own.nil _ _ _, Own.nil _ _ _, Apart.nil_left _, Apart.nil_left _, Apart.nil_left _, Apart.nil_left _, Apart.nil_left _, Apart.nil_left _⟩, hE0.trans (by (repeat (refine Ext.setCell ?_ (Nat.le_refl _) _)); exact hAc.trans hE1)⟩
  · have Hs := Lib.hid (ca_yes hs)
    have hset := ffB_set hs
    obtain ⟨A, rfl, -, hA24, -⟩ := isSetB_nat hset
    have hlo := loF_nat hset
    rw [hs] at cF
    clear hs
    go_enter Try.func14, Try.ntmps14
    go_wp2_with fail
    rw [← Hwb.out, ← Hwc.out]; rw [Hsz.out]
    refine (cF _ hE).mono ?_
    rintro e w1 ⟨vM, rfl, hOM, hE1⟩
    obtain ⟨aoM, cM, rfl, -⟩ := hOM.shape
    have k0 := c0 _ hE1
    have k1 := c1 _ hE1
    obtain ⟨LM, hLM⟩ : ∃ x, x = castL (ffL g h (A : Int) b) := ⟨_, rfl⟩
    have HLM : Hid (caQ g h (A : Int) b = LM) := Lib.hid (by rw [hLM]; rfl)
    rw [← hLM] at hOM ⊢
    clear hLM
    have HOM := Lib.hid hOM
    clear hOM
    obtain ⟨LL, hLL⟩ : ∃ x, x = loF g (A : Int) := ⟨_, rfl⟩
    have HLL : Hid (loF g (A : Int) = LL) := Lib.hid hLL.symm
    have cL := fun W (hW : Ext wc W) => Calls.sh (ListOf_any v g (A : Int) W (HV.out W (hAc.trans hW)))
    have cG := fun W (hW : Ext wc W) => copyGroup_any v g W (HV.out W (hAc.trans hW))
    have cO := fun W (hW : Ext wc W) => copyGroup_any u h W (HU.out W (hAc.trans hW))
    have Hlo := Lib.hid hlo
    have hE := hE1
    clear hlo hLL hset cF c0 c1
    go_wp2_with fail
    have hD := hE.drew
    first | (go_region_held3 (fun W => Ext (wb) W ∧ W.cell? ⟨w.heap.size, 0, none⟩ = some v ∧ W.cell? ⟨w.heap.size + 1, 0, none⟩ = some u ∧ (∀ i, i < 10 → W.cell? ⟨(wb).heap.size, i, none⟩ = some (At W ⟨(wb).heap.size, i, none⟩) ∧ W.frozen? ⟨(wb).heap.size, i, none⟩ = false)) (exact ⟨(by (repeat (refine Ext.setCell ?_ (Nat.le_refl _) _)); exact Ext.trans hAc (by repeat (first | assumption | exact Ext.refl _ | (apply And.left; assumption) | apply Ext.drew | apply Ext.alloc))), b0 _ (by (repeat (refine Ext.setCell ?_ (Nat.le_refl _) _)); exact Ext.trans hAc (by repeat (first | assumption | exact Ext.refl _ | (apply And.left; assumption) | apply Ext.drew | apply Ext.alloc))), b1 _ (by (repeat (refine Ext.setCell ?_ (Nat.le_refl _) _)); exact Ext.trans hAc (by repeat (first | assumption | exact Ext.refl _ | (apply And.left; assumption) | apply Ext.drew | apply Ext.alloc))), (by (repeat (refine Res.setCell ?_ _ _)); exact Res.ext hRc (by repeat (first | assumption | exact Ext.refl _ | (apply And.left; assumption) | apply Ext.drew | apply Ext.alloc)))⟩) (first | (go_at_call 45; ((with_reducible refine Calls.mono (cG _ (by repeat (first | assumption | exact Ext.refl _ | (apply And.left; assumption) | apply Ext.drew | apply Ext.alloc))) ?_); rintro e wH0 ⟨aoG, cGc, rfl, hOG, hX0⟩; have hH0 := Ext.trans (a := wc) (by repeat (first | assumption | exact Ext.refl _ | (apply And.left; assumption) | apply Ext.drew | apply Ext.alloc)) hX0)) | (go_at_call 45; ((with_reducible refine Calls.mono (cO _ (by repeat (first | assumption | exact Ext.refl _ | (apply And.left; assumption) | apply Ext.drew | apply Ext.alloc))) ?_); rintro e wH1 ⟨aoO, cOc, rfl, hOO, hX1⟩; have hH1 := Ext.trans (a := wc) (by repeat (first | assumption | exact Ext.refl _ | (apply And.left; assumption) | apply Ext.drew | apply Ext.alloc)) hX1)) | (go_at_call 46; ((with_reducible refine Calls.mono (cL _ (by repeat (first | assumption | exact Ext.refl _ | (apply And.left; assumption) | apply Ext.drew | apply Ext.alloc))) ?_); rintro e wH2 ⟨aoT, cTc, rfl, hOT, hX2⟩; have hH2 := Ext.trans (a := wc) (by repeat (first | assumption | exact Ext.refl _ | (apply And.left; assumption) | apply Ext.drew | apply Ext.alloc)) hX2)))) | (fail "the region with a result")
    have hw1 : Ext w1 (World.drew w1) := (Ext.refl w1).drew
    have sw1 := hw1.size
    all_goals
      have hOGc := hOG.mono (show Ext wc _ by repeat (first | assumption | exact Ext.refl _ | (apply And.left; assumption) | apply Ext.drew | apply Ext.alloc))
      have hOOc := hOO.mono (show Ext wc _ by repeat (first | assumption | exact Ext.refl _ | (apply And.left; assumption) | apply Ext.drew | apply Ext.alloc))
      have hOTc := hOT.mono (show Ext wc _ by repeat (first | assumption | exact Ext.refl _ | (apply And.left; assumption) | apply Ext.drew | apply Ext.alloc))


      have hr2 := hRc.ext hH2
      unfold Res at hr2
      have s0 := hX0.size
      have s1 := hX1.size
      have s2 := hX2.size
      have aGO : Apart (.slice aoG g.length cGc) (.slice aoO h.length cOc) := by first | (refine apart_of hOG hOO ?_; omega; done) | (refine (apart_of hOO hOG ?_).symm; omega; done)
      have aGT := by first | (refine apart_of hOG hOT ?_; omega; done) | (refine (apart_of hOT hOG ?_).symm; omega; done)
      have aOT := by first | (refine apart_of hOO hOT ?_; omega; done) | (refine (apart_of hOT hOO ?_).symm; omega; done)
      have aMG := apart_of HOM.out hOG (by omega)
      have aMO := apart_of HOM.out hOO (by omega)
      have aMT := apart_of HOM.out hOT (by omega)
      have HA := Lib.hid (And.intro (And.intro aGO aGT) (And.intro (And.intro aOT aMG) (And.intro aMO aMT)))
      clear aGO aGT aOT aMG aMO aMT s0 s1 s2
      go_wp2_with fail
      exact bodyPost_ret (v := .tuple #[CV 5 (.slice aoG g.length cGc) (.slice aoO h.length cOc) (A : Int) b 0 0 (.slice aoT (loF g (A : Int)).length cTc) (.slice aoM LM.length cM) 0, .bool true]) (by simp [results, Try.results14, go_sem, hr2, CV]) rfl ⟨_, _, _, _, by rw [Hs.out.1, Hs.out.2.1, Hs.out.2.2.1], by
        rw [Hs.out.2.2.2.1, Hs.out.2.2.2.2.1, Hs.out.2.2.2.2.2, HLM.out]
        exact ⟨(show Own 3 wc _ _ _ by
          repeat (refine Own.setCell_below ?_ hwc _)
          first | exact hOGc | exact hOGc.ext hX1 | exact hOGc.ext hX2 | exact hOGc.ext (hX1.trans hX2) | exact hOGc.ext (hX2.trans hX1)).mono (hE0.trans hAc),
          (show Own 3 wc _ _ _ by
          repeat (refine Own.setCell_below ?_ hwc _)
          first | exact hOOc | exact hOOc.ext hX0 | exact hOOc.ext hX2 | exact hOOc.ext (hX0.trans hX2) | exact hOOc.ext (hX2.trans hX0)).mono (hE0.trans hAc),
          (show Own 3 wc _ _ _ by
          repeat (refine Own.setCell_below ?_ hwc _)
          skip
          first | exact hOTc | exact hOTc.ext hX0 | exact hOTc.ext hX1 | exact hOTc.ext (hX0.trans hX1) | exact hOTc.ext (hX1.trans hX0)).mono (hE0.trans hAc),
          (show Own 3 wc _ _ _ by
          repeat (refine Own.setCell_below ?_ hwc _)
          first | exact HOM.out.ext (hw1.trans (hX0.trans (hX1.trans hX2))) | exact HOM.out.ext (hw1.trans (hX0.trans (hX2.trans hX1))) | exact HOM.out.ext (hw1.trans (hX1.trans (hX0.trans hX2))) | exact HOM.out.ext (hw1.trans (hX1.trans (hX2.trans hX0))) | exact HOM.out.ext (hw1.trans (hX2.trans (hX0.trans hX1))) | exact HOM.out.ext (hw1.trans (hX2.trans (hX1.trans hX0)))).mono (hE0.trans hAc),
          HA.out.1.1, HA.out.1.2, HA.out.2.1.2.symm, HA.out.2.1.1, HA.out.2.2.1.symm, HA.out.2.2.2.symm⟩,
        hE0.trans (by
          repeat (refine Ext.setCell ?_ (Nat.le_refl _) _)
          first | exact hAc.trans hH0 | exact hAc.trans hH1 | exact hAc.trans hH2)⟩
theorem sClaimOfAlike_any (v u : Value) (g h : List Int) (a b : Int) (w : World) (hv : Ints w v g) (hu : Ints w u h) :
    Calls Try.prog 12 #[.agg #[v], .agg #[u], .int .i64 a, .int .i64 b] w fun e w' => ∃ v1 v2 v3 v4, e = .returned (.tuple #[CV (caK g h a b) v1 v2 (caA g h a b) (caB g h a b) 0 0 v3 v4 0, .bool (ffB g h a b)]) ∧ Own4 w w' v1 v2 v3 v4 (caG g h a b) (caO g h a b) (caT g h a b) (caQ g h a b) ∧ Ext w w' := by
  obtain ⟨wb, hwb⟩ : ∃ wb, wb = (w.alloc (.cells #[v] 30)).alloc (.cells #[u] 30) := ⟨_, rfl⟩
  have hE0 : Ext w wb := by rw [hwb]; exact ((Ext.refl _).alloc _).alloc _
  have B0 : Blk wb w.heap.size 30 #[v] := by rw [hwb]; exact (Blk.new _ _ _).alloc _
  have B1 : Blk wb (w.heap.size + 1) 30 #[u] := by rw [hwb]; simpa using Blk.new (w.alloc (.cells #[v] 30)) 30 #[u]
  have b0 : ∀ W, Ext wb W → W.cell? ⟨w.heap.size, 0, none⟩ = some v := fun W hW => (B0.ext hW).cell (i := 0) rfl
  have b1 : ∀ W, Ext wb W → W.cell? ⟨w.heap.size + 1, 0, none⟩ = some u := fun W hW => (B1.ext hW).cell (i := 0) rfl
  have HV := Lib.hid (fun W (hW : Ext wb W) => hv.ext (hE0.trans hW))
  have HU := Lib.hid (fun W (hW : Ext wb W) => hu.ext (hE0.trans hW))
  have hE := Ext.refl wb
  have Hwb := Lib.hid hwb
  clear hv hu hwb B0 B1
  obtain ⟨wc, hwc⟩ : ∃ wc, wc = wb.alloc (.cells #[.int .i64 0, .slice none 0 0, .slice none 0 0, .int .i64 0, .int .i64 0, .int .i64 0, .int .i64 0, .slice none 0 0, .slice none 0 0, .int .i64 0] 32) := ⟨_, rfl⟩
  have hBc : Blk wc wb.heap.size 32 #[.int .i64 0, .slice none 0 0, .slice none 0 0, .int .i64 0, .int .i64 0, .int .i64 0, .int .i64 0, .slice none 0 0, .slice none 0 0, .int .i64 0] := by rw [hwc]; exact Blk.new _ _ _
  have hRc : Res wc wb.heap.size 10 := hBc.res (by simp)
  have hAc : Ext wb wc := by rw [hwc]; exact hE.alloc _
  replace hE := Ext.refl wc
  have Hsz2 : Hid (wb.heap.size + 1 = wc.heap.size) := Lib.hid (by rw [hwc]; simp [go_sem])
  have Hwc := Lib.hid hwc
  clear hwc hBc
  have hwc : wb.heap.size < wc.heap.size := by have := Hsz2.out; omega
  have Hsz : Hid (w.heap.size + 1 + 1 = wb.heap.size) := Lib.hid (by rw [Hwb.out]; simp [go_sem])
  have cF := fun W (hW : Ext wc W) => sFindFreimanIso_any v u g h a b W (HV.out W (hAc.trans hW)) (HU.out W (hAc.trans hW))
  have c0 := fun W (hW : Ext wc W) => b0 W (hAc.trans hW)
  have c1 := fun W (hW : Ext wc W) => b1 W (hAc.trans hW)
  cases hs : ffB g h a b
  · have Hs := Lib.hid (ca_no hs)
    rw [hs] at cF
    clear hs
    go_enter Try.func12, Try.ntmps12
    go_wp2_with fail
    rw [← Hwb.out, ← Hwc.out]; rw [Hsz.out]
    refine (cF _ hE).mono ?_
    rintro e w1 ⟨vM, rfl, -, hE1⟩
    have hr := hRc.ext hE1
    unfold Res at hr
    go_wp2_with fail
    exact bodyPost_ret (v := .tuple #[CV 0 (.slice none 0 0) (.slice none 0 0) 0 0 0 0 (.slice none 0 0) (.slice none 0 0) 0, .bool false]) (by simp [results, Try.results12, go_sem, hr, CV]) rfl ⟨_, _, _, _, by rw [Hs.out.1, Hs.out.2.1, Hs.out.2.2.1], by rw [Hs.out.2.2.2.1, Hs.out.2.2.2.2.1, Hs.out.2.2.2.2.2.1, Hs.out.2.2.2.2.2.2]; exact ⟨Own.nil _ _ _, Own.nil _ _ _, Own.nil _ _ _, Own.nil _ _ _, Apart.nil_left _, Apart.nil_left _, Apart.nil_left _, Apart.nil_left _, Apart.nil_left _, Apart.nil_left _⟩, hE0.trans (by (repeat (refine Ext.setCell ?_ (Nat.le_refl _) _)); exact hAc.trans hE1)⟩
  · have Hs := Lib.hid (ca_yes hs)
    have hset := ffB_set hs
    obtain ⟨A, rfl, -, hA24, -⟩ := isSetB_nat hset
    have hlo := loF_nat hset
    rw [hs] at cF
    clear hs
    go_enter Try.func12, Try.ntmps12
    go_wp2_with fail
    rw [← Hwb.out, ← Hwc.out]; rw [Hsz.out]
    refine (cF _ hE).mono ?_
    rintro e w1 ⟨vM, rfl, hOM, hE1⟩
    obtain ⟨aoM, cM, rfl, -⟩ := hOM.shape
    have k0 := c0 _ hE1
    have k1 := c1 _ hE1
    obtain ⟨LM, hLM⟩ : ∃ x, x = castL (ffL g h (A : Int) b) := ⟨_, rfl⟩
    have HLM : Hid (caQ g h (A : Int) b = LM) := Lib.hid (by rw [hLM]; rfl)
    rw [← hLM] at hOM ⊢
    clear hLM
    have HOM := Lib.hid hOM
    clear hOM
    obtain ⟨LL, hLL⟩ : ∃ x, x = loF g (A : Int) := ⟨_, rfl⟩
    have HLL : Hid (loF g (A : Int) = LL) := Lib.hid hLL.symm
    have cL := fun W (hW : Ext wc W) => Calls.sh (l3List_any A hA24 W)
    have cG := fun W (hW : Ext wc W) => l33Group_any v g W (HV.out W (hAc.trans hW))
    have cO := fun W (hW : Ext wc W) => l33Group_any u h W (HU.out W (hAc.trans hW))
    have Hlo := Lib.hid hlo
    have hE := hE1
    clear hlo hLL hset cF c0 c1
    go_wp2_with fail
    have hD := hE.drew
    first | (go_region_held3 (fun W => Ext (wb) W ∧ W.cell? ⟨w.heap.size, 0, none⟩ = some v ∧ W.cell? ⟨w.heap.size + 1, 0, none⟩ = some u ∧ (∀ i, i < 10 → W.cell? ⟨(wb).heap.size, i, none⟩ = some (At W ⟨(wb).heap.size, i, none⟩) ∧ W.frozen? ⟨(wb).heap.size, i, none⟩ = false)) (exact ⟨(by (repeat (refine Ext.setCell ?_ (Nat.le_refl _) _)); exact Ext.trans hAc (by repeat (first | assumption | exact Ext.refl _ | (apply And.left; assumption) | apply Ext.drew | apply Ext.alloc))), b0 _ (by (repeat (refine Ext.setCell ?_ (Nat.le_refl _) _)); exact Ext.trans hAc (by repeat (first | assumption | exact Ext.refl _ | (apply And.left; assumption) | apply Ext.drew | apply Ext.alloc))), b1 _ (by (repeat (refine Ext.setCell ?_ (Nat.le_refl _) _)); exact Ext.trans hAc (by repeat (first | assumption | exact Ext.refl _ | (apply And.left; assumption) | apply Ext.drew | apply Ext.alloc))), (by (repeat (refine Res.setCell ?_ _ _)); exact Res.ext hRc (by repeat (first | assumption | exact Ext.refl _ | (apply And.left; assumption) | apply Ext.drew | apply Ext.alloc)))⟩) (first | (go_at_call 42; ((with_reducible refine Calls.mono (cG _ (by repeat (first | assumption | exact Ext.refl _ | (apply And.left; assumption) | apply Ext.drew | apply Ext.alloc))) ?_); rintro e wH0 ⟨aoG, cGc, rfl, hOG, hX0⟩; have hH0 := Ext.trans (a := wc) (by repeat (first | assumption | exact Ext.refl _ | (apply And.left; assumption) | apply Ext.drew | apply Ext.alloc)) hX0)) | (go_at_call 42; ((with_reducible refine Calls.mono (cO _ (by repeat (first | assumption | exact Ext.refl _ | (apply And.left; assumption) | apply Ext.drew | apply Ext.alloc))) ?_); rintro e wH1 ⟨aoO, cOc, rfl, hOO, hX1⟩; have hH1 := Ext.trans (a := wc) (by repeat (first | assumption | exact Ext.refl _ | (apply And.left; assumption) | apply Ext.drew | apply Ext.alloc)) hX1)) | (go_at_call 43; ((with_reducible refine Calls.mono (cL _ (by repeat (first | assumption | exact Ext.refl _ | (apply And.left; assumption) | apply Ext.drew | apply Ext.alloc))) ?_); rintro e wH2 ⟨aoT, cTc, rfl, hOT, hX2⟩; have hH2 := Ext.trans (a := wc) (by repeat (first | assumption | exact Ext.refl _ | (apply And.left; assumption) | apply Ext.drew | apply Ext.alloc)) hX2)))) | (fail "the region with a result")
    have hw1 : Ext w1 (World.drew w1) := (Ext.refl w1).drew
    have sw1 := hw1.size
    all_goals
      have hOGc := hOG.mono (show Ext wc _ by repeat (first | assumption | exact Ext.refl _ | (apply And.left; assumption) | apply Ext.drew | apply Ext.alloc))
      have hOOc := hOO.mono (show Ext wc _ by repeat (first | assumption | exact Ext.refl _ | (apply And.left; assumption) | apply Ext.drew | apply Ext.alloc))
      have hOTc := hOT.mono (show Ext wc _ by repeat (first | assumption | exact Ext.refl _ | (apply And.left; assumption) | apply Ext.drew | apply Ext.alloc))


      have hr2 := hRc.ext hH2
      unfold Res at hr2
      have s0 := hX0.size
      have s1 := hX1.size
      have s2 := hX2.size
      have aGO : Apart (.slice aoG g.length cGc) (.slice aoO h.length cOc) := by first | (refine apart_of hOG hOO ?_; omega; done) | (refine (apart_of hOO hOG ?_).symm; omega; done)
      have aGT := by first | (refine apart_of hOG hOT ?_; omega; done) | (refine (apart_of hOT hOG ?_).symm; omega; done)
      have aOT := by first | (refine apart_of hOO hOT ?_; omega; done) | (refine (apart_of hOT hOO ?_).symm; omega; done)
      have aMG := apart_of HOM.out hOG (by omega)
      have aMO := apart_of HOM.out hOO (by omega)
      have aMT := apart_of HOM.out hOT (by omega)
      have HA := Lib.hid (And.intro (And.intro aGO aGT) (And.intro (And.intro aOT aMG) (And.intro aMO aMT)))
      clear aGO aGT aOT aMG aMO aMT s0 s1 s2
      go_wp2_with fail
      exact bodyPost_ret (v := .tuple #[CV 5 (.slice aoG g.length cGc) (.slice aoO h.length cOc) (A : Int) b 0 0 (.slice aoT (castL (elems A)).length cTc) (.slice aoM LM.length cM) 0, .bool true]) (by simp [results, Try.results12, go_sem, hr2, CV]) rfl ⟨_, _, _, _, by rw [Hs.out.1, Hs.out.2.1, Hs.out.2.2.1], by
        rw [Hs.out.2.2.2.1, Hs.out.2.2.2.2.1, Hs.out.2.2.2.2.2, HLM.out]
        exact ⟨(show Own 3 wc _ _ _ by
          repeat (refine Own.setCell_below ?_ hwc _)
          first | exact hOGc | exact hOGc.ext hX1 | exact hOGc.ext hX2 | exact hOGc.ext (hX1.trans hX2) | exact hOGc.ext (hX2.trans hX1)).mono (hE0.trans hAc),
          (show Own 3 wc _ _ _ by
          repeat (refine Own.setCell_below ?_ hwc _)
          first | exact hOOc | exact hOOc.ext hX0 | exact hOOc.ext hX2 | exact hOOc.ext (hX0.trans hX2) | exact hOOc.ext (hX2.trans hX0)).mono (hE0.trans hAc),
          (show Own 3 wc _ _ _ by
          repeat (refine Own.setCell_below ?_ hwc _)
          rw [Hlo.out]
          first | exact hOTc | exact hOTc.ext hX0 | exact hOTc.ext hX1 | exact hOTc.ext (hX0.trans hX1) | exact hOTc.ext (hX1.trans hX0)).mono (hE0.trans hAc),
          (show Own 3 wc _ _ _ by
          repeat (refine Own.setCell_below ?_ hwc _)
          first | exact HOM.out.ext (hw1.trans (hX0.trans (hX1.trans hX2))) | exact HOM.out.ext (hw1.trans (hX0.trans (hX2.trans hX1))) | exact HOM.out.ext (hw1.trans (hX1.trans (hX0.trans hX2))) | exact HOM.out.ext (hw1.trans (hX1.trans (hX2.trans hX0))) | exact HOM.out.ext (hw1.trans (hX2.trans (hX0.trans hX1))) | exact HOM.out.ext (hw1.trans (hX2.trans (hX1.trans hX0)))).mono (hE0.trans hAc),
          HA.out.1.1, HA.out.1.2, HA.out.2.1.2.symm, HA.out.2.1.1, HA.out.2.2.1.symm, HA.out.2.2.2.symm⟩,
        hE0.trans (by
          repeat (refine Ext.setCell ?_ (Nat.le_refl _) _)
          first | exact hAc.trans hH0 | exact hAc.trans hH1 | exact hAc.trans hH2)⟩
end Go.Zz
