/- Small functions of the law on translates: correlations, sums of lists; a drawn set of shifts. -/
import Derived.Test.YtgkojfjbfmpaaaaGr8
import Derived.Test.YtgkojfjbfmpaaaaGr10
import Derived.Test.YtgkojfjbfmpaaaaGr5
import Derived.Test.YtgkojfjbfmpaaaaGr7
import Derived.Test.YtgkojfjbfmpaaaaGr11
import Derived.Deep.DeepCutAuto
import Derived.Deep.RegionHeld3
import Derived.Laws.EntriesVeiled
namespace Go.Zz
open Go.RowKit Go.Proofs
set_option maxHeartbeats 2000000
set_option maxRecDepth 8000

theorem CorrelationOf_any (v : Value) (l : List Int) (a b : Int) (w : World) (h : Ints w v l) :
    Calls Try.prog 49 #[.agg #[v], .int .i64 a, .int .i64 b] w fun e w' => ∃ u, e = .returned u ∧ Own 3 w w' u (corF l a b) ∧ Ext w w' := by
  obtain ⟨wb, hwb⟩ : ∃ wb, wb = w.alloc (.cells #[v] 26) := ⟨_, rfl⟩
  have hE0 := (Ext.refl w).alloc (.cells #[v] 26)
  have hb := box_cell w v 26
  rw [← hwb] at hE0 hb
  have hg : ∀ W, Ext wb W → Ints W v l := fun W hW => h.ext (hE0.trans hW)
  have hE := Ext.refl wb
  have Hsz : Hid (w.heap.size + 1 = wb.heap.size) := Lib.hid (by rw [hwb]; simp [go_sem])
  have Hwb := Lib.hid hwb
  clear hwb h
  have hbx := hb wb hE
  have har := areF_two l a b
  cases hs : (isSetB l a && isSetB l b)
  · have Hs := Lib.hid (corF_no hs)
    rw [hs] at har
    clear hs
    go_enter Try.func49, Try.ntmps49
    go_wp2_with fail
    rw [← Hwb.out]; rw [Hsz.out]
    go_wp2_with (first | (go_at_call 88; refine Calls.mono (areSets_val _ _ _ _ _ (hg _ (by repeat (first | assumption | exact Ext.refl _ | (apply And.left; assumption) | apply Ext.drew | apply Ext.alloc))) (ints_two _ _ _ _) har) ?_; rintro e w' ⟨rfl, hE'⟩; replace hE := hE.trans (Ext.trans (by repeat (first | assumption | exact Ext.refl _ | (apply And.left; assumption) | apply Ext.drew | apply Ext.alloc)) hE'); clear hE'))
    go_ret
    exact ⟨_, rfl, by rw [Hs.out]; exact own_made (by omega) (hE0.trans hE) [] rfl, (hE0.trans hE).alloc _⟩
  · obtain ⟨h1, h2⟩ := Bool.and_eq_true_iff.1 hs
    obtain ⟨a, rfl, ha1, ha, hgr⟩ := isSetB_nat h1
    obtain ⟨b, rfl, -, hb', -⟩ := isSetB_nat h2
    have Hs := Lib.hid (corF_yes hs)
    have hoS : isSetB l (oppF l b : Nat) = true := isSetB_of hgr (oppF_lt (isGrp_ords hgr) b)
    have Ht := Lib.hid (tabF_N (l := l) (a := a) (b := oppF l b) (by rw [h1, hoS]; rfl))
    rw [hs] at har
    have Hgr := Lib.hid hgr
    clear hs hgr h1 h2 hoS
    go_enter Try.func49, Try.ntmps49
    go_wp2_with fail
    rw [← Hwb.out]; rw [Hsz.out]
    go_wp2_with (first | (go_at_call 88; refine Calls.mono (areSets_val _ _ _ _ _ (hg _ (by repeat (first | assumption | exact Ext.refl _ | (apply And.left; assumption) | apply Ext.drew | apply Ext.alloc))) (ints_two _ _ _ _) har) ?_; rintro e w' ⟨rfl, hE'⟩; replace hE := hE.trans (Ext.trans (by repeat (first | assumption | exact Ext.refl _ | (apply And.left; assumption) | apply Ext.drew | apply Ext.alloc)) hE'); clear hE'))
    rename World => wq
    have hbq : ∀ W, Ext wq W → W.cell? ⟨w.heap.size, 0, none⟩ = some v := fun W hW => hb W (hE.trans hW)
    have cO := fun W (hW : Ext wq W) => opposite_any v l b W (hg W (hE.trans hW)) Hgr hb'
    have cT := fun W (hW : Ext wq W) => SumTable_any v l a (oppF l b : Nat) W (hg W (hE.trans hW))
    rw [Ht.out, ← Hs.out] at cT
    have HE := Lib.hid (hE0.trans hE)
    clear hbx hb hg hE
    have hD := (Ext.refl (wq)).drew
    first | (go_region_held3 (fun W => Ext (wq) W ∧ W.cell? ⟨w.heap.size, 0, none⟩ = some v) (exact ⟨(by repeat (first | assumption | exact Ext.refl _ | (apply And.left; assumption) | apply Ext.drew | apply Ext.alloc)), hbq _ (by repeat (first | assumption | exact Ext.refl _ | (apply And.left; assumption) | apply Ext.drew | apply Ext.alloc))⟩) (first | (go_at_call 93; ((with_reducible refine Calls.mono (cO _ (by repeat (first | assumption | exact Ext.refl _ | (apply And.left; assumption) | apply Ext.drew | apply Ext.alloc))) ?_); rintro e wH0 ⟨rfl, hX0⟩; have hH0 := Ext.trans (a := wq) (by repeat (first | assumption | exact Ext.refl _ | (apply And.left; assumption) | apply Ext.drew | apply Ext.alloc)) hX0)) | (go_at_call 68; ((with_reducible refine Calls.mono (cT _ (by repeat (first | assumption | exact Ext.refl _ | (apply And.left; assumption) | apply Ext.drew | apply Ext.alloc))) ?_); rintro e wH1 ⟨vT, rfl, hOT, hX1⟩; have hH1 := Ext.trans (a := wq) (by repeat (first | assumption | exact Ext.refl _ | (apply And.left; assumption) | apply Ext.drew | apply Ext.alloc)) hX1)))) | (fail "the region with calls")
    go_wp2_with fail
    go_ret
    exact ⟨vT, rfl, hOT.mono (HE.out.trans (by repeat (first | assumption | exact Ext.refl _ | (apply And.left; assumption) | apply Ext.drew | apply Ext.alloc))), HE.out.trans (by repeat (first | assumption | exact Ext.refl _ | (apply And.left; assumption) | apply Ext.drew | apply Ext.alloc))⟩
theorem total_any (u : Value) (t : List Int) (w : World) (hu : Ints w u t) (hB : ∀ i, 0 ≤ nth t i ∧ nth t i ≤ 1000000) (hl : t.length ≤ 1000) :
    Calls Try.prog 50 #[u] w fun e w' => e = .returned (.int .i64 (totTo t t.length)) ∧ Ext w w' := by
  obtain ⟨ao, c, adr, rfl, -, hadr, hcell⟩ := hu.op
  have hix := ints_index (c := c) elI szI hadr
  have Hc := Lib.hid hcell
  clear hadr hcell hu
  go_enter Try.func50, Try.ntmps50
  go_wp2_with fail
  go_loopw [3, 4] (fun ss si wr => ∃ k : Nat, k ≤ t.length ∧ si = .int .i64 k ∧ ss = .int .i64 (totTo t k) ∧ Ext w wr) (fun _ si _ => t.length - (intOf si).toNat)
  case atStart => exact ⟨0, by omega, rfl, rfl, Ext.refl _⟩
  case round =>
    rename World => wr
    obtain ⟨k, hk, rfl, rfl, hE⟩ := hrel
    by_cases hlt : k < t.length
    · have hltI : (k : Int) < (t.length : Int) := by omega
      have hck := Hc.out k wr hlt hE
      have hb1 := tot_bd hB k
      have hb2 := hB k
      have hn : Hid (totTo t (k + 1) = totTo t k + nth t k) := Lib.hid rfl
      obtain ⟨S, hS⟩ : ∃ S, S = totTo t k := ⟨_, rfl⟩
      obtain ⟨X, hX⟩ : ∃ S, S = nth t k := ⟨_, rfl⟩
      rw [← hS] at hb1 hn ⊢
      rw [← hX] at hck hb2 hn
      clear hS hX
      have hw : IntKind.i64.wrap (S + X) = S + X := IntWalk.i64_in _ (by omega)
      go_wp2_with fail
      go_roundw
      case rel => exact ⟨k + 1, by omega, by go_num, by rw [hn.out], hE⟩
      case measure => (simp [intOf]; omega)
    · have hkl : k = t.length := by omega
      subst hkl
      go_wp2_with fail
      go_ret
      exact ⟨rfl, hE⟩
/-- what the last statement leaves -/
def CovP (w wA : World) (V : Value) (L : List Int) (s3 s4 : Value) (wx : World) : Prop :=
  ∃ x y, s3 = .int .i64 x ∧ s4 = .int .i64 y ∧ wx.cell? ⟨w.heap.size, 0, none⟩ = some V ∧ Own 3 w wx V L ∧ Ext w wx
theorem covP_A {w wA X : World} {V : Value} {L : List Int} {x y : Int} (hB : Blk X w.heap.size 26 #[.slice none 0 0]) (hO : Own 3 wA X V L) (hE : Ext w X) (h : w.heap.size < wA.heap.size) :
    CovP w wA V L (.int .i64 x) (.int .i64 y) (X.setCell ⟨w.heap.size, 0, none⟩ V) :=
  ⟨x, y, rfl, rfl, (hB.set 0 V).cell (i := 0) rfl, (Own.setCell_below hO h V).low (Nat.le_of_lt h), hE.setCell (Nat.le_refl _) V⟩
theorem covP_B {w wA X : World} {V : Value} {L : List Int} {x y : Int} {o : Obj} (hB : Blk X w.heap.size 26 #[.slice none 0 0]) (hO : Own 3 wA X V L) (hE : Ext w X) (h : w.heap.size < wA.heap.size) :
    CovP w wA V L (.int .i64 x) (.int .i64 y) ((X.setCell ⟨w.heap.size, 0, none⟩ V).alloc o) :=
  ⟨x, y, rfl, rfl, ((hB.set 0 V).alloc o).cell (i := 0) rfl, ((Own.setCell_below hO h V).low (Nat.le_of_lt h)).alloc o, (hE.setCell (Nat.le_refl _) V).alloc o⟩
theorem covP_C {w wA X : World} {V : Value} {L : List Int} {x y : Int} {o : Obj} (hB : Blk X w.heap.size 26 #[.slice none 0 0]) (hO : Own 3 wA X V L) (hE : Ext w X) (h : w.heap.size < wA.heap.size) :
    CovP w wA V L (.int .i64 x) (.int .i64 y) ((X.setCell ⟨w.heap.size, 0, none⟩ V).alloc o).drew :=
  ⟨x, y, rfl, rfl, (((hB.set 0 V).alloc o).drew).cell (i := 0) rfl, (((Own.setCell_below hO h V).low (Nat.le_of_lt h)).alloc o).ext ((Ext.refl _).drew), ((hE.setCell (Nat.le_refl _) V).alloc o).drew⟩
theorem DrawIsCovering_any (v : Value) (l : List Int) (w : World) (h : Byts w v l) :
    Calls Try.prog 46 #[v] w fun e w' => ∃ ao L c x0 x1, e = .returned (.tuple #[.agg #[.slice ao (List.length L) c], .int .i64 x0, .int .i64 x1]) ∧ Own 3 w w' (.slice ao (List.length L) c) L ∧ Ext w w' := by
  have hE0 := (Ext.refl w).alloc (.cells #[.slice none 0 0] 26)
  have hB0 : Blk (w.alloc (.cells #[.slice none 0 0] 26)) w.heap.size 26 #[.slice none 0 0] := Blk.new _ _ _
  obtain ⟨wA, hwA⟩ : ∃ x, x = w.alloc (.cells #[.slice none 0 0] 26) := ⟨_, rfl⟩
  have hsA : wA.heap.size = w.heap.size + 1 := by rw [hwA]; simp
  rw [← hwA] at hE0 hB0
  have HwA := Lib.hid hwA
  have hlen : l.length ≤ 140737488355328 := by obtain ⟨_, _, _, h1, _⟩ := h; exact h1
  have HY := Lib.hid (h.ext hE0)
  obtain ⟨av, cv, rfl, -⟩ := h
  clear hwA
  go_enter Try.func46, Try.ntmps46
  go_wp2_with fail
  rw [← HwA.out]
  refine (l29Small_any _ _ _ HY.out).mono ?_
  rintro e w2 ⟨ao, L, c, x, rfl, hO, hE⟩
  have hBr2 := (hB0.ext hE).alloc (.cells #[.slice ao L.length c] 26)
  have hBg2 := Blk.new w2 26 #[.slice ao L.length c]
  have kg2 := hBg2.cell (i := 0) (v := .slice ao L.length c) rfl
  have hO2 := hO.alloc (.cells #[.slice ao L.length c] 26)
  have hE2 := (hE0.trans hE).alloc (.cells #[.slice ao L.length c] 26)
  have hs2 := hE.size
  have hnot := own_not hO2 hBg2 (by decide)
  clear hB0 hO
  go_wp2_with fail
  refine (sFewestTranslates_any _ L x _ hO2.ints).mono ?_
  rintro e w4 ⟨rfl, hE4⟩
  have hBr := hBr2.ext hE4
  have hBg := hBg2.ext hE4
  have hO4 := hO2.ext hE4
  have HE := Lib.hid (hE2.trans hE4)
  have kg := hBg.cell (i := 0) (v := .slice ao L.length c) rfl
  have kr := hBr.cell (i := 0) (v := .slice none 0 0) rfl
  have fr := hBr.free 0
  have hwA : w.heap.size < wA.heap.size := by omega
  have hsw := hBr.lt
  clear hBr2 hBg2 kg2 hO2 hE2 hE4 hE
  have hm3 : ((l.length : Int)).tmod 3 = (l.length : Int) % 3 := Int.tmod_eq_emod_of_nonneg (by omega)
  have hm3b : 0 ≤ (l.length : Int) % 3 := Int.emod_nonneg _ (by omega)
  have hm4 : ((l.length : Int)).tmod 4 = (l.length : Int) % 4 := Int.tmod_eq_emod_of_nonneg (by omega)
  by_cases hq : trB L x = true ∧ 0 < (l.length : Int) % 3
  · obtain ⟨q1, q2⟩ := hq
    rw [q1]
    have hO9 := (Own.setCell_below hO4 (p := ⟨w.heap.size, 0, none⟩) hwA (.slice ao L.length c)).low (w0 := w) (by omega)
    have hC9 := HE.out.setCell (p := ⟨w.heap.size, 0, none⟩) (Nat.le_refl _) (.slice ao L.length c)
    have kres := (hBr.set 0 (.slice ao L.length c)).cell (i := 0) (v := .slice ao L.length c) rfl
    go_wp2_with fail
    clear kr fr kg
    generalize w4.setCell ⟨w.heap.size, 0, none⟩ (.slice ao L.length c) = w9 at hO9 hC9 kres ⊢
    exact bodyPost_ret (v := .tuple #[.agg #[.slice ao L.length c], .int .i64 x, .int .i64 (fewF L x)]) (by simp [results, Try.results46, go_sem, kres]) rfl ⟨_, L, _, x, _, rfl, hO9, hC9⟩
  · have hE5 := (Ext.refl w4).drew
    have k4 : (l.length : Int) % 4 = 0 ∨ (l.length : Int) % 4 = 1 ∨ (l.length : Int) % 4 = 2 ∨ (l.length : Int) % 4 = 3 := by omega
    have hq' : trB L x = false ∨ (trB L x = true ∧ ¬ 0 < (l.length : Int) % 3) := by
      cases h1 : trB L x
      · exact Or.inl rfl
      · exact Or.inr ⟨rfl, fun h2 => hq ⟨h1, h2⟩⟩
    clear hq
    rcases hq' with q1 | ⟨q1, q2⟩ <;> rw [q1]
    all_goals
      go_upto_region 5 with fail
      go_cut [3, 4] (fun s3 s4 wx => CovP w wA (.slice ao L.length c) L s3 s4 wx)
      case first =>
        have kgd := (hBg.drew).cell (i := 0) (v := .slice ao L.length c) rfl
        have krd := (hBr.drew).cell (i := 0) (v := .slice none 0 0) rfl
        have frd := (hBr.drew).free 0
        have kga := ((hBg.drew).alloc (.cells #[.int .i64 0, .int .i64 1, .int .i64 3, .int .i64 (-1)] 3)).cell (i := 0) (v := .slice ao L.length c) rfl
        have kra := ((hBr.drew).alloc (.cells #[.int .i64 0, .int .i64 1, .int .i64 3, .int .i64 (-1)] 3)).cell (i := 0) (v := .slice none 0 0) rfl
        have fra := ((hBr.drew).alloc (.cells #[.int .i64 0, .int .i64 1, .int .i64 3, .int .i64 (-1)] 3)).free 0
        have kgs := ((hBg.other (p := ⟨w.heap.size, 0, none⟩) (by simp; omega) (.slice ao L.length c)).drew).cell (i := 0) (v := .slice ao L.length c) rfl
        have kgt := (((hBg.other (p := ⟨w.heap.size, 0, none⟩) (by simp; omega) (.slice ao L.length c)).alloc (.cells #[.int .i64 0, .int .i64 1, .int .i64 3, .int .i64 (-1)] 3)).drew).cell (i := 0) (v := .slice ao L.length c) rfl
        rcases k4 with k4 | k4 | k4 | k4 <;> rw [k4] at hm4
        all_goals
          refine wp_region_held_drew (S := (fun W => W.cell? ⟨w2.heap.size, 0, none⟩ = some (.slice ao L.length c))) (by kernel_rfl) (by exact kgd) (fun hHeld => ?_)
          (refine takeOn (i := 0) (v := ?_) (by kernel_rfl) (by rfl) (by rfl) (by kernel_rfl) (by kernel_rfl) (by intro _ _ _ h; exact h) ?_ (by assumption) ?_); (rotate_left 1); (focus ((intro w hSw); (try dsimp only at hSw); go_simp; (try with_reducible rfl))); (try simp only [Act.put, List.setIfInBounds_toArray, List.set_cons_zero, List.set_cons_succ, List.getElem_toArray, List.getElem_cons_zero, List.getElem_cons_succ])
          (refine takeOn (i := 1) (v := ?_) (by kernel_rfl) (by rfl) (by rfl) (by kernel_rfl) (by kernel_rfl) (by intro _ _ _ h; exact h) ?_ (by assumption) ?_); (rotate_left 1); (focus ((intro w hSw); (try dsimp only at hSw); go_simp; (try with_reducible rfl))); (try simp only [Act.put, List.setIfInBounds_toArray, List.set_cons_zero, List.set_cons_succ, List.getElem_toArray, List.getElem_cons_zero, List.getElem_cons_succ])
          (refine takeOn (i := 3) (v := ?_) (by kernel_rfl) (by rfl) (by rfl) (by kernel_rfl) (by kernel_rfl) (by intro _ _ _ h; exact h) ?_ (by assumption) ?_); (rotate_left 1); (focus ((intro w hSw); (try dsimp only at hSw); go_simp; (try with_reducible rfl))); (try simp only [Act.put, List.setIfInBounds_toArray, List.set_cons_zero, List.set_cons_succ, List.getElem_toArray, List.getElem_cons_zero, List.getElem_cons_succ])
          (refine takeOn (i := 4) (v := ?_) (by kernel_rfl) (by rfl) (by rfl) (by kernel_rfl) (by kernel_rfl) (by intro _ _ _ h; exact h) ?_ (by assumption) ?_); (rotate_left 1); (focus ((intro w hSw); (try dsimp only at hSw); go_simp; (try with_reducible rfl))); (try simp only [Act.put, List.setIfInBounds_toArray, List.set_cons_zero, List.set_cons_succ, List.getElem_toArray, List.getElem_cons_zero, List.getElem_cons_succ])
          (refine takeOn (i := 5) (v := ?_) (by kernel_rfl) (by rfl) (by rfl) (by kernel_rfl) (by kernel_rfl) (by intro _ _ _ h; exact h) ?_ (by assumption) ?_); (rotate_left 1); (focus ((intro w hSw); (try dsimp only at hSw); go_simp; (first | done | with_reducible rfl | (rw [if_neg]; (try simp only [ByteArray.size_append, ByteArray.size_mk, List.size_toArray, List.length_cons, List.length_nil]); omega) | trace_state))); (try simp only [Act.put, List.setIfInBounds_toArray, List.set_cons_zero, List.set_cons_succ, List.getElem_toArray, List.getElem_cons_zero, List.getElem_cons_succ])
          refine wpAnyH_ready (rs := [2, 8]) (by kernel_rfl) (by simp) ?_
          refine AllReadyH.cons (i := 2) (by rfl) (fun K hK => ?_) (AllReadyH.cons (i := 8) (by rfl) (fun K hK => ?_) (AllReadyH.nil))
          · rw [if_pos (by rfl)]
            go_simp
            refine hK.out _ _ (by first | exact kga | exact kgs | exact kgt) (fun hHeld => ?_)
            clear hK K
            (try simp only [Act.put, List.setIfInBounds_toArray, List.set_cons_zero, List.set_cons_succ, List.getElem_toArray, List.getElem_cons_zero, List.getElem_cons_succ])
            (refine takeOn (i := 6) (v := ?_) (by kernel_rfl) (by rfl) (by rfl) (by kernel_rfl) (by kernel_rfl) (by intro _ _ _ h; exact h) ?_ (by assumption) ?_); (rotate_left 1); (focus ((intro w hSw); (try dsimp only at hSw); go_simp; (try with_reducible rfl))); (try simp only [Act.put, List.setIfInBounds_toArray, List.set_cons_zero, List.set_cons_succ, List.getElem_toArray, List.getElem_cons_zero, List.getElem_cons_succ])
            refine wpAnyH_ready (rs := [7, 8]) (by kernel_rfl) (by simp) ?_
            refine AllReadyH.cons (i := 7) (by rfl) (fun K hK => ?_) (AllReadyH.cons (i := 8) (by rfl) (fun K hK => ?_) (AllReadyH.nil))
            · rw [if_pos (by rfl)]
              go_simp
              refine hK.out _ _ (by first | exact kga | exact kgs | exact kgt) (fun hHeld => ?_)
              clear hK K
              (try simp only [Act.put, List.setIfInBounds_toArray, List.set_cons_zero, List.set_cons_succ, List.getElem_toArray, List.getElem_cons_zero, List.getElem_cons_succ])
              refine takeOne (i := 8) (by kernel_rfl) (by rfl) (by rfl) (fun K hK => ?_)
              go_simp
              refine hK.out _ _ (by first | exact kga | exact kgs | exact kgt) (fun hHeld => ?_)
              clear hK K
              (try simp only [Act.put, List.setIfInBounds_toArray, List.set_cons_zero, List.set_cons_succ, List.getElem_toArray, List.getElem_cons_zero, List.getElem_cons_succ])
              (refine takeOn (i := 9) (v := ?_) (by kernel_rfl) (by rfl) (by rfl) (by kernel_rfl) (by kernel_rfl) (by intro _ _ _ h; exact h) ?_ (by assumption) ?_); (rotate_left 1); (focus ((intro w hSw); (try dsimp only at hSw); go_simp; (try with_reducible rfl))); (try simp only [Act.put, List.setIfInBounds_toArray, List.set_cons_zero, List.set_cons_succ, List.getElem_toArray, List.getElem_cons_zero, List.getElem_cons_succ])
              (refine takeOn (i := 10) (v := ?_) (by kernel_rfl) (by rfl) (by rfl) (by kernel_rfl) (by kernel_rfl) (by intro _ _ _ h; exact h) ?_ (by assumption) ?_); (rotate_left 1); (focus ((intro w hSw); (try dsimp only at hSw); go_simp; (try with_reducible rfl))); (try simp only [Act.put, List.setIfInBounds_toArray, List.set_cons_zero, List.set_cons_succ, List.getElem_toArray, List.getElem_cons_zero, List.getElem_cons_succ])
              refine wpAnyH_done (by kernel_rfl) ?_ _
              go_wp2_with fail
              go_meet
              first | exact covP_C hBr hO4 HE.out hwA | exact covP_A hBr.drew hO4.drew HE.out.drew hwA
            · rw [if_pos (by rfl)]
              go_simp
              refine hK.out _ _ (by first | exact kga | exact kgs | exact kgt) (fun hHeld => ?_)
              clear hK K
              (try simp only [Act.put, List.setIfInBounds_toArray, List.set_cons_zero, List.set_cons_succ, List.getElem_toArray, List.getElem_cons_zero, List.getElem_cons_succ])
              (refine takeOn (i := 9) (v := ?_) (by kernel_rfl) (by rfl) (by rfl) (by kernel_rfl) (by kernel_rfl) (by intro _ _ _ h; exact h) ?_ (by assumption) ?_); (rotate_left 1); (focus ((intro w hSw); (try dsimp only at hSw); go_simp; (try with_reducible rfl))); (try simp only [Act.put, List.setIfInBounds_toArray, List.set_cons_zero, List.set_cons_succ, List.getElem_toArray, List.getElem_cons_zero, List.getElem_cons_succ])
              refine takeOne (i := 7) (by kernel_rfl) (by rfl) (by rfl) (fun K hK => ?_)
              go_simp
              refine hK.out _ _ (by first | exact kga | exact kgs | exact kgt) (fun hHeld => ?_)
              clear hK K
              (try simp only [Act.put, List.setIfInBounds_toArray, List.set_cons_zero, List.set_cons_succ, List.getElem_toArray, List.getElem_cons_zero, List.getElem_cons_succ])
              (refine takeOn (i := 10) (v := ?_) (by kernel_rfl) (by rfl) (by rfl) (by kernel_rfl) (by kernel_rfl) (by intro _ _ _ h; exact h) ?_ (by assumption) ?_); (rotate_left 1); (focus ((intro w hSw); (try dsimp only at hSw); go_simp; (try with_reducible rfl))); (try simp only [Act.put, List.setIfInBounds_toArray, List.set_cons_zero, List.set_cons_succ, List.getElem_toArray, List.getElem_cons_zero, List.getElem_cons_succ])
              refine wpAnyH_done (by kernel_rfl) ?_ _
              go_wp2_with fail
              go_meet
              first | exact covP_C hBr hO4 HE.out hwA | exact covP_A hBr.drew hO4.drew HE.out.drew hwA
          · rw [if_pos (by rfl)]
            go_simp
            refine hK.out _ _ (by first | exact kga | exact kgs | exact kgt) (fun hHeld => ?_)
            clear hK K
            (try simp only [Act.put, List.setIfInBounds_toArray, List.set_cons_zero, List.set_cons_succ, List.getElem_toArray, List.getElem_cons_zero, List.getElem_cons_succ])
            (refine takeOn (i := 9) (v := ?_) (by kernel_rfl) (by rfl) (by rfl) (by kernel_rfl) (by kernel_rfl) (by intro _ _ _ h; exact h) ?_ (by assumption) ?_); (rotate_left 1); (focus ((intro w hSw); (try dsimp only at hSw); go_simp; (try with_reducible rfl))); (try simp only [Act.put, List.setIfInBounds_toArray, List.set_cons_zero, List.set_cons_succ, List.getElem_toArray, List.getElem_cons_zero, List.getElem_cons_succ])
            refine takeOne (i := 2) (by kernel_rfl) (by rfl) (by rfl) (fun K hK => ?_)
            go_simp
            refine hK.out _ _ (by first | exact kga | exact kgs | exact kgt) (fun hHeld => ?_)
            clear hK K
            (try simp only [Act.put, List.setIfInBounds_toArray, List.set_cons_zero, List.set_cons_succ, List.getElem_toArray, List.getElem_cons_zero, List.getElem_cons_succ])
            (refine takeOn (i := 6) (v := ?_) (by kernel_rfl) (by rfl) (by rfl) (by kernel_rfl) (by kernel_rfl) (by intro _ _ _ h; exact h) ?_ (by assumption) ?_); (rotate_left 1); (focus ((intro w hSw); (try dsimp only at hSw); go_simp; (try with_reducible rfl))); (try simp only [Act.put, List.setIfInBounds_toArray, List.set_cons_zero, List.set_cons_succ, List.getElem_toArray, List.getElem_cons_zero, List.getElem_cons_succ])
            refine takeOne (i := 7) (by kernel_rfl) (by rfl) (by rfl) (fun K hK => ?_)
            go_simp
            refine hK.out _ _ (by first | exact kga | exact kgs | exact kgt) (fun hHeld => ?_)
            clear hK K
            (try simp only [Act.put, List.setIfInBounds_toArray, List.set_cons_zero, List.set_cons_succ, List.getElem_toArray, List.getElem_cons_zero, List.getElem_cons_succ])
            (refine takeOn (i := 10) (v := ?_) (by kernel_rfl) (by rfl) (by rfl) (by kernel_rfl) (by kernel_rfl) (by intro _ _ _ h; exact h) ?_ (by assumption) ?_); (rotate_left 1); (focus ((intro w hSw); (try dsimp only at hSw); go_simp; (try with_reducible rfl))); (try simp only [Act.put, List.setIfInBounds_toArray, List.set_cons_zero, List.set_cons_succ, List.getElem_toArray, List.getElem_cons_zero, List.getElem_cons_succ])
            refine wpAnyH_done (by kernel_rfl) ?_ _
            go_wp2_with fail
            go_meet
            first | exact covP_C hBr hO4 HE.out hwA | exact covP_A hBr.drew hO4.drew HE.out.drew hwA
      case rest =>
      obtain ⟨x3, x4, rfl, rfl, kres, hO9, hC9⟩ := hcut
      go_wp2_with fail
      exact bodyPost_ret (v := .tuple #[.agg #[.slice ao L.length c], .int .i64 x3, .int .i64 x4]) (by simp [results, Try.results46, go_sem, kres]) rfl ⟨_, L, _, x3, x4, rfl, hO9, hC9⟩
end Go.Zz

/- Claims: equal ones, marks in what they hold. -/
namespace Go.Zz
open Go.RowKit Go.Proofs
set_option maxHeartbeats 2000000

/-- two values own no block together -/
def Apart (x y : Value) : Prop := ∀ k, x.ownBlock = some k → y.ownBlock ≠ some k
theorem Apart.symm {x y : Value} (h : Apart x y) : Apart y x := fun k hk e => h k e hk
theorem Apart.or {x y : Value} (h : Apart x y) : x.ownBlock = none ∨ x.ownBlock ≠ y.ownBlock := by
  cases hx : x.ownBlock with
  | none => exact Or.inl rfl
  | some k => exact Or.inr fun e => h k hx e.symm
theorem Apart.nil_left (y : Value) : Apart (.slice none 0 0) y := fun k hk => by cases hk
theorem Apart.nil_right (x : Value) : Apart x (.slice none 0 0) := fun k _ h => by cases h
theorem apart_of {TI : TypeId} {a b c d : World} {u v : Value} {l m : List Int} (h : Own TI a b u l) (k : Own TI c d v m) (hs : b.heap.size ≤ c.heap.size) : Apart u v := fun i hi e => by
  have h1 := (h.blk i hi).2
  have h2 := (k.blk i e).1
  omega
/-- four slices that are owned, apart from each other -/
structure Own4 (w0 w : World) (v1 v2 v3 v4 : Value) (g o t q : List Int) : Prop where
  h1 : Own 3 w0 w v1 g
  h2 : Own 3 w0 w v2 o
  h3 : Own 3 w0 w v3 t
  h4 : Own 3 w0 w v4 q
  d12 : Apart v1 v2
  d13 : Apart v1 v3
  d14 : Apart v1 v4
  d23 : Apart v2 v3
  d24 : Apart v2 v4
  d34 : Apart v3 v4
theorem Own4.ext {w0 w w' : World} {v1 v2 v3 v4 : Value} {g o t q : List Int} (h : Own4 w0 w v1 v2 v3 v4 g o t q) (hE : Ext w w') : Own4 w0 w' v1 v2 v3 v4 g o t q :=
  ⟨h.h1.ext hE, h.h2.ext hE, h.h3.ext hE, h.h4.ext hE, h.d12, h.d13, h.d14, h.d23, h.d24, h.d34⟩
theorem Own4.mono {w0 w1 w : World} {v1 v2 v3 v4 : Value} {g o t q : List Int} (h : Own4 w1 w v1 v2 v3 v4 g o t q) (hE : Ext w0 w1) : Own4 w0 w v1 v2 v3 v4 g o t q :=
  ⟨h.h1.mono hE, h.h2.mono hE, h.h3.mono hE, h.h4.mono hE, h.d12, h.d13, h.d14, h.d23, h.d24, h.d34⟩
/-- the slices of a claim read as lists -/
structure Ints4 (w : World) (v1 v2 v3 v4 : Value) (g o t q : List Int) : Prop where
  g : Ints w v1 g
  o : Ints w v2 o
  t : Ints w v3 t
  q : Ints w v4 q
theorem Ints4.ext {w w' : World} {v1 v2 v3 v4 : Value} {g o t q : List Int} (h : Ints4 w v1 v2 v3 v4 g o t q) (hE : Ext w w') : Ints4 w' v1 v2 v3 v4 g o t q :=
  ⟨h.g.ext hE, h.o.ext hE, h.t.ext hE, h.q.ext hE⟩
theorem Own4.ints {w0 w : World} {v1 v2 v3 v4 : Value} {g o t q : List Int} (h : Own4 w0 w v1 v2 v3 v4 g o t q) : Ints4 w v1 v2 v3 v4 g o t q := ⟨h.h1.ints, h.h2.ints, h.h3.ints, h.h4.ints⟩
/-- the slices lie below a block -/
def Below4 (v1 v2 v3 v4 : Value) (top : Nat) : Prop := ∀ k, (v1.ownBlock = some k ∨ v2.ownBlock = some k ∨ v3.ownBlock = some k ∨ v4.ownBlock = some k) → k < top
theorem Own4.below {w0 w : World} {v1 v2 v3 v4 : Value} {g o t q : List Int} (h : Own4 w0 w v1 v2 v3 v4 g o t q) : Below4 v1 v2 v3 v4 w.heap.size := by
  rintro k (hk | hk | hk | hk)
  · exact (h.h1.blk k hk).2
  · exact (h.h2.blk k hk).2
  · exact (h.h3.blk k hk).2
  · exact (h.h4.blk k hk).2
theorem Own.kept_low {TI : TypeId} {w0 w w' : World} {v : Value} {l : List Int} {row : Option Nat} (h : Own TI w0 w v l) (hg : w.grownBy w' row) (hr : ∀ k, row = some k → k < w0.heap.size) : Own TI w0 w' v l :=
  h.kept hg (by
    cases hq : v.ownBlock with
    | none => exact Or.inl rfl
    | some k => exact Or.inr fun e => by have := hr k e.symm; have := (h.blk k hq).1; omega)
theorem Own.kept_high {TI : TypeId} {w0 w w' : World} {v : Value} {l : List Int} {row : Option Nat} (h : Own TI w0 w v l) (hg : w.grownBy w' row) (hr : ∀ k, row = some k → v.ownBlock ≠ some k) : Own TI w0 w' v l :=
  h.kept hg (by
    cases hq : v.ownBlock with
    | none => exact Or.inl rfl
    | some k => exact Or.inr fun e => hr k e.symm hq)
theorem Own4.kept {w0 w w' : World} {v1 v2 v3 v4 : Value} {g o t q : List Int} {row : Option Nat} (h : Own4 w0 w v1 v2 v3 v4 g o t q) (hg : w.grownBy w' row) (hr : ∀ k, row = some k → k < w0.heap.size) : Own4 w0 w' v1 v2 v3 v4 g o t q :=
  ⟨h.h1.kept_low hg hr, h.h2.kept_low hg hr, h.h3.kept_low hg hr, h.h4.kept_low hg hr, h.d12, h.d13, h.d14, h.d23, h.d24, h.d34⟩
/-- a value of type Claim -/
def CV (k : Int) (v1 v2 : Value) (a b s p : Int) (v3 v4 : Value) (n : Int) : Value := .agg #[.int .i64 k, v1, v2, .int .i64 a, .int .i64 b, .int .i64 s, .int .i64 p, v3, v4, .int .i64 n]

end Go.Zz

/- Cosets of small doubling. -/
namespace Go.Zz
open Go.RowKit Go.Proofs
set_option maxHeartbeats 400000

def scD (l : List Int) (a : Int) : Int := if smallF l a then (sumF l a.toNat (oppF l a.toNat) : Int) else 0
def scS (l : List Int) (a : Int) : Int := if smallF l a then (sumF l a.toNat (sumF l a.toNat (oppF l a.toNat)) : Int) else 0
theorem sc_no {l : List Int} {a : Int} (h : smallF l a = false) : scD l a = 0 ∧ scS l a = 0 := by unfold scD scS; rw [h]; exact ⟨rfl, rfl⟩
theorem sc_yes {l : List Int} {n : Nat} (h : smallF l n = true) : scD l n = (sumF l n (oppF l n) : Int) ∧ scS l n = (sumF l n (sumF l n (oppF l n)) : Int) := by unfold scD scS; rw [h]; exact ⟨rfl, rfl⟩
theorem smallF_nat {l : List Int} {a : Int} (h : smallF l a = true) : ∃ n : Nat, a = n ∧ n < 2 ^ ord l ∧ n < 2 ^ 24 ∧ isGrp l = true ∧ isSetB l a = true := by
  unfold smallF at h
  have h1 := (Bool.and_eq_true_iff.1 (Bool.and_eq_true_iff.1 h).1).1
  obtain ⟨n, rfl, a, b, c⟩ := isSetB_nat h1
  exact ⟨n, rfl, a, b, c, h1⟩
end Go.Zz

/- Claims of cosets. -/
namespace Go.Zz
open Go.RowKit Go.Proofs
set_option maxHeartbeats 2000000
set_option maxRecDepth 20000

end Go.Zz

/- Tilings: differences; the search of the reference. -/
namespace Go.Zz
open Go.RowKit Go.Proofs
set_option maxHeartbeats 1000000
set_option maxRecDepth 4000

--%call minus 148 ext minus_any _ _ _ _ _ ({0}) ({1}) ({2}) ({3})
theorem minus_any (v : Value) (l : List Int) (x y : Nat) (w : World) (h : Ints w v l) (Hgr : Hid (isGrp l = true)) (hx : x < 16777216) (hy : y < 24) :
    Calls Try.prog 148 #[.agg #[v], .int .i64 x, .int .i64 y] w fun e w' => e = .returned (.int .i64 (addF l x (negF l y) : Nat)) ∧ Ext w w' := by
  obtain ⟨wb, hwb⟩ : ∃ wb, wb = w.alloc (.cells #[v] 26) := ⟨_, rfl⟩
  have hE0 := (Ext.refl w).alloc (.cells #[v] 26)
  have hb := box_cell w v 26
  rw [← hwb] at hE0 hb
  have hg : ∀ W, Ext wb W → Ints W v l := fun W hW => h.ext (hE0.trans hW)
  have hE := Ext.refl wb
  have Hsz : Hid (w.heap.size + 1 = wb.heap.size) := Lib.hid (by rw [hwb]; simp [go_sem])
  have Hwb := Lib.hid hwb
  clear hwb h
  have hbx := fun U => hb _ (lat_ext wb U)
  have hng : negF l y < 16777216 := by have := negF_lt l (isGrp_ords Hgr.out) y; have := (ord_bd Hgr.out).2; omega
  go_enter Try.func148, Try.ntmps148
  go_wp2_with fail
  rw [← Hwb.out]
  (refine wp_region_lat (wb) (by kernel_rfl) (by kernel_rfl) hE ?_); (repeat (go_big_quiet_step (first | (go_at_call 149; exact Calls.lat (negate_any _ _ _ _ (hg _ (lat_ext wb _)) (Hgr) ((by omega)))) | (go_at_call 140; exact Calls.lat (add_any _ _ _ _ _ (hg _ (lat_ext wb _)) (Hgr) (hx) (hng)))))); (refine wpQuiet_nil ?_); (intro W hE'); (replace hE := lat_of hE'); (clear hE')
  go_wp2_with fail
  go_ret
  exact ⟨rfl, hE0.trans hE⟩
end Go.Zz

/- Tilings: the search of the program, a closure. -/
namespace Go.Zz
open Go.RowKit Go.Proofs
set_option maxHeartbeats 2000000
set_option maxRecDepth 4000

theorem tl_any (v : Value) (l : List Int) (a m : Nat) (Hgr : Hid (isGrp l = true)) (ha0 : a ≠ 0) (ha : a < 2 ^ ord l) (hm : m ≤ 1000) (W0 : World) (bG bO bA bM bT : Nat) (hbt : bO ≠ bT) (hbO : W0.heap.size ≤ bO) (fn : Value)
    (HG : ∀ W, Ext W0 W → W.cell? ⟨bG, 0, none⟩ = some v) (HA : ∀ W, Ext W0 W → W.cell? ⟨bA, 0, none⟩ = some (.int .i64 a)) (HM : ∀ W, Ext W0 W → W.cell? ⟨bM, 0, none⟩ = some (.int .i64 m)) (HI : Hid (∀ W, Ext W0 W → Ints W v l))
    (hfn : fn = .func (.func 147) #[] #[.pointer (some ⟨bG, 0, none⟩), .pointer (some ⟨bO, 0, none⟩), .pointer (some ⟨bA, 0, none⟩), .pointer (some ⟨bM, 0, none⟩), .pointer (some ⟨bT, 0, none⟩)]) :
    ∀ (f u b : Nat) (w : World) (vo : Value) (out : List Nat), ord l < cnt u + f → u < 2 ^ ord l → b < 2 ^ 24 → out.length < m → Ext W0 w → Blk w bO 24 #[vo] → Own 3 W0 w vo (castL out) → Blk w bT 92 #[fn] →
    Calls Try.prog 147 #[.int .i64 b, .int .i64 u, .pointer (some ⟨bG, 0, none⟩), .pointer (some ⟨bO, 0, none⟩), .pointer (some ⟨bA, 0, none⟩), .pointer (some ⟨bM, 0, none⟩), .pointer (some ⟨bT, 0, none⟩)] w fun e w' =>
      e = .returned (.tuple #[]) ∧ ∃ vo', Blk w' bO 24 #[vo'] ∧ Own 3 W0 w' vo' (castL (tlI l a m f u b out)) ∧ Fr bO vo.ownBlock w w' ∧ Nw vo.ownBlock w vo'.ownBlock := by
  intro f
  induction f with
  | zero => intro u b w vo out hf hu; have := cnt_ord Hgr.out hu; omega
  | succ f ih =>
    intro u b w vo out hf hu hb24 hom hE0 hBO hO hBT
    rw [hfn] at hBT
    have hob := ord_bd Hgr.out
    have hp24 := pow_ord Hgr.out
    have ha24 : a < 2 ^ 24 := Nat.lt_of_lt_of_le ha hp24
    have hu24 : u < 2 ^ 24 := Nat.lt_of_lt_of_le hu hp24
    have hTO := own_not hO hBT (by decide)
    have hOO := own_not hO hBO (by decide)
    obtain ⟨ao, co, rfl, -⟩ := hO.shape
    rw [castL_len] at hO hBO hTO hOO ⊢
    rw [hfn] at ih
    have Hih := Lib.hid ih
    clear ih
    by_cases hfull : u = fullN l
    · have He := Lib.hid (tlI_full (l := l) (a := a) (m := m) (f := f) (b := b) (out := out) hfull)
      have hq : ((u : Int) == (fullN l : Int)) = true := by rw [hfull]; simp
      have Hc : Hid (castL (out ++ [b]) = castL out ++ [(b : Int)]) := Lib.hid (by simp [castL])
      clear hfull
      have hlen : (castL out).length < 17592186044416 := by rw [castL_len]; omega
      have kO : ∀ W, Ext w W → W.cell? ⟨bO, 0, none⟩ = some (.slice ao out.length co) := fun W hW => (hBO.ext hW).cell (i := 0) rfl
      go_enter Try.func147, Try.ntmps147
      go_wp2_with (first
        | (go_at_call 82; refine (FullSet_grp _ _ _ (HI.out _ hE0) Hgr).mono ?_; rintro e w1 ⟨rfl, hE1⟩)
        | (at_builtin; refine wp_append1F slI rfl _ _ rfl W0 _ _ _ _ (hO.ext hE1) (hE0.trans hE1) hlen rfl rfl ?_; intro v2 w2 hO2 hG2 hN2; have hB2 := hBO.ext hE1; replace hB2 := hB2.grown hG2 (fun k hk e => hOO (by rw [hk, e])); have hc2 := hB2.cell (i := 0) (v := .slice ao out.length co) rfl; have hf2 := hB2.free 0; obtain ⟨a2, c2, rfl, -⟩ := hO2.shape; obtain ⟨n2, hn2⟩ : ∃ n, n = (castL out ++ [(b : Int)]).length := ⟨_, rfl⟩; rw [← hn2] at hO2 hN2 ⊢; replace hn2 := Lib.hid hn2))
      have hF2 := ((hE1.fr bO (Value.slice ao out.length co).ownBlock).trans (Nw.refl _ _) (fr_grown hG2)).trans (Nw.refl _ _) (fr_set bO _ w2 0 (.slice a2 n2 c2))
      have hB3 : Blk (w2.setCell ⟨bO, 0, none⟩ (.slice a2 n2 c2)) bO 24 #[.slice a2 n2 c2] := hB2.set 0 (.slice a2 n2 c2)
      have hO3 := (fr_set bO none w2 0 (.slice a2 n2 c2)).own hO2 (own_not hO2 hB2 (by decide)) (by cases hq : (Value.slice a2 n2 c2).ownBlock with
        | none => exact Or.inl rfl
        | some k => exact Or.inr (by simp))
      exact bodyPost_ret (v := .tuple #[]) (by simp [results, Try.results147, go_sem]) rfl ⟨rfl, _, hB3, by rw [He.out, Hc.out]; exact hO3, hF2, (Nw.refl _ _).trans hE1.size hN2⟩
    · have hq : ((u : Int) == (fullN l : Int)) = false := by rw [beq_eq_false_iff_ne]; omega
      have Hnf := Lib.hid hfull
      clear hfull
      go_enter Try.func147, Try.ntmps147
      go_wp2_with (go_at_call 82; refine (FullSet_grp _ _ _ (HI.out _ hE0) Hgr).mono ?_; rintro e w1 ⟨rfl, hE1⟩)
      have hE01 := hE0.trans hE1
      go_loop [9] (fun xv => ∃ e : Nat, e ≤ ord l ∧ xv = .int .i64 e ∧ ∀ j, j < e → u.testBit j = true) (fun x => ord l - (intOf x).toNat)
      case atStart => exact ⟨0, by omega, rfl, by omega⟩
      case round =>
        obtain ⟨e, he, rfl, hall⟩ := hrel
        cases hbe : u.testBit e
        · have helt : e < ord l := Classical.byContradiction fun hn => Hnf.out (not_full hu hall (by omega))
          have hlow : Hid (lowZ u = e) := Lib.hid (lowZ_is hall hbe (by omega))
          have hcN := in_val u e hu24 (by omega) w1 hbe
          clear hall hbe
          go_wp2_with (first | (go_at_call 61; refine hcN.mono ?_; rintro e' w' ⟨rfl, hw'⟩; subst hw') | (go_at_call 139; refine (members_any a ha24 _).mono ?_; rintro e2 w2 ⟨v2, rfl, hL, hE2⟩; obtain ⟨aoL, cL, adrL, rfl, hadrL, hcellL⟩ := hL.ints.nats))
          have hixL := ints_index (c := cL) elI szI hadrL
          have hE12 := hE1.trans hE2
          have hE02 := hE01.trans hE2
          have hB2 := hBO.ext hE12
          have hO2 := hO.ext hE12
          have hT2 := hBT.ext hE12
          have hnL1 := own_nb hL (Nat.lt_of_lt_of_le hBO.lt hE1.size)
          have hnL2 : (Value.slice aoL (elems a).length cL).ownBlock = none ∨ (Value.slice aoL (elems a).length cL).ownBlock ≠ (Value.slice ao out.length co).ownBlock := by
            cases hq : (Value.slice aoL (elems a).length cL).ownBlock with
            | none => exact Or.inl rfl
            | some j => exact Or.inr fun e => by have h1 := (hL.blk j hq).1; have h2 := (hO.blk j e.symm).2; have := hE1.size; omega
          have hL24 : ∀ y ∈ elems a, y < 24 := fun y hy => elems_lt hy
          have hlenL := elems_len a
          have hoB : ∀ j, (Value.slice ao out.length co).ownBlock = some j → W0.heap.size ≤ j := fun j hj => (hO.blk j hj).1
          clear hO hBO hBT hcellL
          obtain ⟨oB, hoBd⟩ : ∃ oB, oB = (Value.slice ao out.length co).ownBlock := ⟨_, rfl⟩
          have HL := Lib.hid hL
          have HnL2 := Lib.hid hnL2
          have HN12 := Lib.hid hE12
          have HadrL := Lib.hid hadrL
          clear hL hnL2 hadrL
          go_loopw [30] (fun i wr => ∃ (k : Nat) (vo' : Value), k ≤ (elems a).length ∧ i = .int .i64 k ∧ Blk wr bO 24 #[vo'] ∧ Own 3 W0 wr vo' (castL (tlIto l a m f u b out k)) ∧ Fr bO (Value.slice ao out.length co).ownBlock w2 wr ∧ Nw (Value.slice ao out.length co).ownBlock w2 vo'.ownBlock) (fun i _ => (elems a).length - (intOf i).toNat)
          case atStart => exact ⟨0, _, by omega, rfl, hB2, hO2, Fr.refl _ _ _, Nw.refl _ _⟩
          case round =>
            clear hB2 hO2
            obtain ⟨k, vo', hk, rfl, hBr, hOr, hFr, hNr⟩ := hrel
            have hE0r := hFr.ext hE02 hbO hoB
            have hTr := hFr.blk hT2 (Ne.symm hbt) hTO
            have HLr := Lib.hid (hFr.own HL.out hnL1 HnL2.out)
            have HFr := Lib.hid hFr
            have HNr := Lib.hid hNr
            clear hFr hNr
            obtain ⟨ab, cb, rfl, -⟩ := hOr.shape
            obtain ⟨O, hOd⟩ : ∃ O, O = tlIto l a m f u b out k := ⟨_, rfl⟩
            rw [← hOd] at hOr hBr HNr
            rw [castL_len] at hOr hBr HNr
            by_cases hlt : k < (elems a).length
            · have hX24 := hL24 _ (nthN_mem hlt)
              have Hel : Hid ((elems a)[k] = nthN (elems a) k) := Lib.hid (by simp [nthN, List.getD, hlt])
              have hck : wr.cell? (adrL k) = some (.int .i64 (nthN (elems a) k : Int)) := by
                obtain ⟨ao2, c2, hv, -, -, hc⟩ := HLr.out.ints
                rw [castL_len] at hc hv
                simp only [Value.slice.injEq] at hv
                obtain ⟨a2, ha2, hc2⟩ := hc k hlt
                obtain ⟨h1, h2⟩ := HadrL.out k hlt
                rw [nth_castL] at hc2
                rw [← hv.1, h1] at ha2
                simp only [Option.some.injEq] at ha2
                rw [h2, ha2]; exact hc2
              obtain ⟨X, hX⟩ : ∃ X, X = nthN (elems a) k := ⟨_, rfl⟩
              rw [← hX] at hck hX24 Hel
              have hng : negF l X < 16777216 := by have := negF_lt l (isGrp_ords Hgr.out) X; omega
              have hD24 : addF l e (negF l X) < 24 := Nat.lt_of_lt_of_le (addF_lt l (isGrp_ords Hgr.out) _ _) hob.2
              have HD : Hid (dF l u X = addF l e (negF l X)) := Lib.hid (by unfold dF; rw [hlow.out])
              obtain ⟨D, hD⟩ : ∃ D, D = addF l e (negF l X) := ⟨_, rfl⟩
              have hcA := fun W (hW : Ext wr W) => minus_any v l e X W (HI.out _ (hE0r.trans hW)) Hgr (by omega) hX24
              rw [← hD] at hcA hD24 HD
              have hS24 := shiftF_bd Hgr.out a D
              obtain ⟨S, hS⟩ : ∃ S, S = shiftF l a D := ⟨_, rfl⟩
              have hcS := fun W (hW : Ext wr W) => shift_any v l a D W (HI.out _ (hE0r.trans hW)) Hgr ha24 hD24
              rw [← hS] at hcS hS24
              have hand : iand (S : Int) (u : Int) = ((S &&& u : Nat) : Int) := iand_nat (by omega) (by omega)
              clear hX hD HLr
              cases hz : (((S &&& u : Nat) : Int) == 0)
              · have Hn : Hid (tlIto l a m f u b out (k + 1) = O) := Lib.hid (by
                  rw [tlIto_no hlt, hOd]
                  rw [Hel.out, HD.out, ← hS]
                  rw [beq_eq_false_iff_ne] at hz; omega)
                clear hOd hS
                go_wp2_with (first | (go_at_call 148; refine (hcA _ (Ext.refl _)).mono ?_; rintro e3 w3 ⟨rfl, hE3⟩; have hE03 := hE0r.trans hE3) | (go_at_call 87; refine (hcS _ hE3).mono ?_; rintro e4 w4 ⟨rfl, hE4⟩; have hE04 := hE03.trans hE4; have hE34 := hE3.trans hE4))
                go_roundw
                case rel => exact ⟨k + 1, _, by omega, by go_num, hBr.ext hE34, by rw [Hn.out]; exact hOr.ext hE34, HFr.out.trans HNr.out (hE34.fr _ _), HNr.out⟩
                case measure => (simp [intOf]; omega)
              · have hz' : S &&& u = 0 := by rw [beq_iff_eq] at hz; omega
                have kO : ∀ W, Ext wr W → W.cell? ⟨bO, 0, none⟩ = some (.slice ab O.length cb) := fun W hW => (hBr.ext hW).cell (i := 0) rfl
                by_cases hlm : (O.length : Int) < (m : Int)
                · have hmore := tl_more Hgr.out ha0 ha hu D (by rw [← hS]; exact hz')
                  rw [← hS] at hmore
                  have Hn : Hid (tlIto l a m f u b out (k + 1) = tlI l a m f (u ||| S) (b ||| 2 ^ D) O) := Lib.hid (by
                    have := tlIto_yes (l := l) (a := a) (m := m) (f := f) (u := u) (b := b) (out := out) hlt (by rw [Hel.out, HD.out, ← hS]; exact hz') (by rw [← hOd]; omega)
                    rw [this, ← hOd, Hel.out, HD.out, ← hS])
                  have hbd : b ||| 2 ^ D < 2 ^ 24 := Nat.or_lt_two_pow hb24 (Nat.pow_lt_pow_right (by omega) hD24)
                  have hcR := fun W (hE : Ext wr W) => Hih.out (u ||| S) (b ||| 2 ^ D) W (.slice ab O.length cb) O (by omega) hmore.1 hbd (by omega) (hE0r.trans hE) (hBr.ext hE) (hOr.ext hE) (hTr.ext hE)
                  have hs0 : ior (u : Int) (S : Int) = ((u ||| S : Nat) : Int) := ior_nat (by omega) (by omega)
                  have hs1 := ishl_one (n := D) (by omega)
                  have hs2 := ior_pw hb24 hD24
                  have kt : ∀ W, Ext wr W → W.cell? ⟨bT, 0, none⟩ = some (.func (.func 147) #[] #[.pointer (some ⟨bG, 0, none⟩), .pointer (some ⟨bO, 0, none⟩), .pointer (some ⟨bA, 0, none⟩), .pointer (some ⟨bM, 0, none⟩), .pointer (some ⟨bT, 0, none⟩)]) := fun W hW => (hTr.ext hW).cell (i := 0) rfl
                  clear hOd hS hmore hbd hz'
                  go_wp2_with (first | (go_at_call 148; refine (hcA _ (Ext.refl _)).mono ?_; rintro e3 w3 ⟨rfl, hE3⟩; have hE03 := hE0r.trans hE3) | (go_at_call 87; refine (hcS _ hE3).mono ?_; rintro e4 w4 ⟨rfl, hE4⟩; have hE04 := hE03.trans hE4; have hE34 := hE3.trans hE4))
                  have hD0 := (Ext.refl w4).drew
                  first | (go_region_held3 (fun W => W.cell? ⟨bT, 0, none⟩ = some (.func (.func 147) #[] #[.pointer (some ⟨bG, 0, none⟩), .pointer (some ⟨bO, 0, none⟩), .pointer (some ⟨bA, 0, none⟩), .pointer (some ⟨bM, 0, none⟩), .pointer (some ⟨bT, 0, none⟩)])) (first | exact hT5.cell (i := 0) rfl | exact kt _ (by repeat (first | assumption | exact Ext.refl _ | (apply And.left; assumption) | apply Ext.drew | apply Ext.alloc))) (first | (go_at_call 147; ((with_reducible refine Calls.mono (hcR _ (by repeat (first | assumption | exact Ext.refl _ | (apply And.left; assumption) | apply Ext.drew | apply Ext.alloc))) ?_); rintro eH w5 ⟨rfl, vo5, hB5, hO5, hF5, hN5⟩; have hT5 := hF5.blk (hTr.ext (by repeat (first | assumption | exact Ext.refl _ | (apply And.left; assumption) | apply Ext.drew | apply Ext.alloc))) (Ne.symm hbt) (own_not (hOr.ext (by repeat (first | assumption | exact Ext.refl _ | (apply And.left; assumption) | apply Ext.drew | apply Ext.alloc))) (hTr.ext (by repeat (first | assumption | exact Ext.refl _ | (apply And.left; assumption) | apply Ext.drew | apply Ext.alloc))) (by decide)))))) | (fail "the region")
                  go_wp2_with fail
                  go_roundw
                  case rel => exact ⟨k + 1, vo5, by omega, by go_num, hB5, by rw [Hn.out]; exact hO5, HFr.out.trans HNr.out ((hE34.drew.fr _ _).trans (Nw.refl _ _) hF5), HNr.out.trans (Nat.le_trans HFr.out.size hE34.drew.size) hN5⟩
                  case measure => (simp [intOf]; omega)
                · have Hn : Hid (tlIto l a m f u b out (k + 1) = O) := Lib.hid (by
                    rw [tlIto_no hlt, hOd]
                    rw [← hOd]; omega)
                  clear hOd hS hz'
                  go_wp2_with (first | (go_at_call 148; refine (hcA _ (Ext.refl _)).mono ?_; rintro e3 w3 ⟨rfl, hE3⟩; have hE03 := hE0r.trans hE3) | (go_at_call 87; refine (hcS _ hE3).mono ?_; rintro e4 w4 ⟨rfl, hE4⟩; have hE04 := hE03.trans hE4; have hE34 := hE3.trans hE4))
                  go_roundw
                  case rel => exact ⟨k + 1, _, by omega, by go_num, hBr.ext hE34, by rw [Hn.out]; exact hOr.ext hE34, HFr.out.trans HNr.out (hE34.fr _ _), HNr.out⟩
                  case measure => (simp [intOf]; omega)
            · have Hn : Hid (tlI l a m (f + 1) u b out = O) := Lib.hid (by rw [hOd, tlI_end Hnf.out, show k = (elems a).length by omega])
              clear hOd
              go_wp2_with fail
              go_end0
              exact ⟨rfl, _, hBr, by rw [Hn.out]; exact hOr, (HN12.out.fr _ _).trans (Nw.refl _ _) HFr.out, (Nw.refl _ _).trans HN12.out.size HNr.out⟩
        · have helt := bit_lt hu hbe
          have hcN := in_val u e hu24 (by omega) w1 hbe
          go_wp2_with (refine hcN.mono ?_; rintro e' w' ⟨rfl, hw'⟩; subst hw')
          go_round
          case rel => exact ⟨e + 1, by omega, by go_num, fun j hj => by by_cases hje : j = e; (subst hje; exact hbe); exact hall j (by omega)⟩
          case measure => (simp [intOf]; omega)
end Go.Zz

/- FindTile and ClaimOfTile of both. -/
namespace Go.Zz
open Go.RowKit Go.Proofs
set_option maxHeartbeats 2000000
set_option maxRecDepth 4000

theorem tiles_any (v : Value) (l : List Int) (a m : Nat) (w : World) (h : Ints w v l) (Hgr : Hid (isGrp l = true)) (ha0 : a ≠ 0) (ha : a < 2 ^ ord l) (hm1 : 1 ≤ m) (hm : m ≤ 1000) :
    Calls Try.prog 89 #[.agg #[v], .int .i64 a, .int .i64 m] w fun e w' => ∃ v', e = .returned v' ∧ Own 3 w w' v' (castL (tileL l a m)) ∧ Ext w w' := by
  have hp24 := pow_ord Hgr.out
  have ha24 : a < 2 ^ 24 := Nat.lt_of_lt_of_le ha hp24
  have He : Hid (tileL l a m = tlI l a m (ord l + 1) a 1 []) := Lib.hid (by
    have := tlI_eq l a m (ord l + 1) a 1 [] (by simp; omega)
    rw [this]; simp [tileL])
  have hca : 1 ≤ cnt a := cnt_pos (Nat.pos_of_ne_zero ha0) ha24
  have hmf : ∀ (fn : Fn) (first cap : Array Value) (w : World), (Instr.makeFunc fn first cap).run Try.prog w = .ok (.func fn first cap) w := fun _ _ _ _ => rfl
  have HH := Lib.hid h
  clear h
  go_enter Try.func89, Try.ntmps89
  go_wp2_with fail
  obtain ⟨w1, h1⟩ : ∃ x, x = w.alloc (.cells #[v] 26) := ⟨_, rfl⟩
  obtain ⟨w2, h2⟩ : ∃ x, x = w1.alloc (.cells #[.int .i64 (a : Int)] 3) := ⟨_, rfl⟩
  obtain ⟨w3, h3⟩ : ∃ x, x = w2.alloc (.cells #[.int .i64 (m : Int)] 3) := ⟨_, rfl⟩
  obtain ⟨w4, h4⟩ : ∃ x, x = w3.alloc (.cells #[] 3) := ⟨_, rfl⟩
  obtain ⟨w5, h5⟩ : ∃ x, x = w4.alloc (.cells #[.slice (some ⟨w.heap.size + 1 + 1 + 1, 0, none⟩) 0 0] 24) := ⟨_, rfl⟩
  obtain ⟨w6, h6⟩ : ∃ x, x = w5.alloc (.cells #[.func (.func 147) #[] #[.pointer (some ⟨w.heap.size, 0, none⟩), .pointer (some ⟨w.heap.size + 1 + 1 + 1 + 1, 0, none⟩), .pointer (some ⟨w.heap.size + 1, 0, none⟩), .pointer (some ⟨w.heap.size + 1 + 1, 0, none⟩), .pointer (some ⟨w.heap.size + 1 + 1 + 1 + 1 + 1, 0, none⟩)]] 92) := ⟨_, rfl⟩
  rw [← h1, ← h2, ← h3, ← h4, ← h5, ← h6]
  have s1 : w1.heap.size = w.heap.size + 1 := by rw [h1]; simp
  have s2 : w2.heap.size = w.heap.size + 1 + 1 := by rw [h2]; simp [s1]
  have s3 : w3.heap.size = w.heap.size + 1 + 1 + 1 := by rw [h3]; simp [s2]
  have s4 : w4.heap.size = w.heap.size + 1 + 1 + 1 + 1 := by rw [h4]; simp [s3]
  have s5 : w5.heap.size = w.heap.size + 1 + 1 + 1 + 1 + 1 := by rw [h5]; simp [s4]
  have e01 : Ext w w1 := by rw [h1]; exact (Ext.refl _).alloc _
  have e12 : Ext w1 w2 := by rw [h2]; exact (Ext.refl _).alloc _
  have e23 : Ext w2 w3 := by rw [h3]; exact (Ext.refl _).alloc _
  have e34 : Ext w3 w4 := by rw [h4]; exact (Ext.refl _).alloc _
  have e45 : Ext w4 w5 := by rw [h5]; exact (Ext.refl _).alloc _
  have e56 : Ext w5 w6 := by rw [h6]; exact (Ext.refl _).alloc _
  have B1 : Blk w1 w.heap.size 26 #[v] := by rw [h1]; exact Blk.new _ _ _
  have B2 : Blk w2 (w.heap.size + 1) 3 #[.int .i64 (a : Int)] := by rw [h2, ← s1]; exact Blk.new _ _ _
  have B3 : Blk w3 (w.heap.size + 1 + 1) 3 #[.int .i64 (m : Int)] := by rw [h3, ← s2]; exact Blk.new _ _ _
  have B5 : Blk w5 (w.heap.size + 1 + 1 + 1 + 1) 24 #[.slice (some ⟨w.heap.size + 1 + 1 + 1, 0, none⟩) 0 0] := by rw [h5, ← s4]; exact Blk.new _ _ _
  have B6 : Blk w6 (w.heap.size + 1 + 1 + 1 + 1 + 1) 92 #[.func (.func 147) #[] #[.pointer (some ⟨w.heap.size, 0, none⟩), .pointer (some ⟨w.heap.size + 1 + 1 + 1 + 1, 0, none⟩), .pointer (some ⟨w.heap.size + 1, 0, none⟩), .pointer (some ⟨w.heap.size + 1 + 1, 0, none⟩), .pointer (some ⟨w.heap.size + 1 + 1 + 1 + 1 + 1, 0, none⟩)]] := by rw [h6, ← s5]; exact Blk.new _ _ _
  have O4 : Own 3 w3 w4 (.slice (some ⟨w.heap.size + 1 + 1 + 1, 0, none⟩) 0 0) [] := by rw [h4, ← s3]; exact own_made (TI := 3) (n := 0) (by omega) (Ext.refl w3) [] rfl
  have e13 := e12.trans e23
  have e36 := e34.trans (e45.trans e56)
  have e03 := e01.trans e13
  refine (tl_any v l a m Hgr ha0 ha hm w3 w.heap.size (w.heap.size + 1 + 1 + 1 + 1) (w.heap.size + 1) (w.heap.size + 1 + 1) (w.heap.size + 1 + 1 + 1 + 1 + 1) (by omega) (by omega) _ (fun W hW => ((B1.ext e13).ext hW).cell (i := 0) rfl) (fun W hW => ((B2.ext e23).ext hW).cell (i := 0) rfl) (fun W hW => (B3.ext hW).cell (i := 0) rfl) (Lib.hid fun W hW => HH.out.ext (e03.trans hW)) rfl (ord l + 1) a 1 w6 _ [] (by omega) ha (by decide) (by simp; omega) e36 (B5.ext e56) (O4.ext (e45.trans e56)) B6).mono ?_
  rintro e w7 ⟨rfl, v7, hB7, hO7, hF7, -⟩
  rw [← He.out] at hO7
  obtain ⟨a7, c7, rfl, -⟩ := hO7.shape
  have hx7 := hB7.cell (i := 0) (v := .slice a7 (castL (tileL l a m)).length c7) rfl
  have hE7 : Ext w w7 := hF7.ext (e03.trans e36) (by omega) (fun j hj => by simp [Value.ownBlock] at hj; omega)
  go_wp2_with fail
  go_ret
  exact ⟨_, rfl, hO7.mono e03, hE7⟩
theorem FindTile_any (v : Value) (l : List Int) (a : Int) (w : World) (h : Ints w v l) :
    Calls Try.prog 40 #[.agg #[v], .int .i64 a] w fun e w' => e = .returned (.tuple #[.int .i64 (ftV l a), .bool (ftB l a)]) ∧ Ext w w' := by
  obtain ⟨wb, hwb⟩ : ∃ wb, wb = w.alloc (.cells #[v] 26) := ⟨_, rfl⟩
  have hE0 := (Ext.refl w).alloc (.cells #[v] 26)
  have hb := box_cell w v 26
  rw [← hwb] at hE0 hb
  have hg : ∀ W, Ext wb W → Ints W v l := fun W hW => h.ext (hE0.trans hW)
  have hE := Ext.refl wb
  have Hsz : Hid (w.heap.size + 1 = wb.heap.size) := Lib.hid (by rw [hwb]; simp [go_sem])
  have Hwb := Lib.hid hwb
  clear hwb h
  have hbx := hb wb hE
  cases hs : isSetB l a
  · have Hs := Lib.hid (ft_no (isOneB_no hs))
    go_enter Try.func40, Try.ntmps40
    go_wp2_with fail
    rw [← Hwb.out]
    go_wp2_with (first | (go_at_call 66; refine (IsSet_val _ _ _ _ (hg _ hE) (hs)).mono ?_; rintro e w' ⟨rfl, hE'⟩; replace hE := hE.trans hE'; clear hE'))
    exact bodyPost_ret (v := .tuple #[.int .i64 0, .bool false]) (by simp [results, Try.results40, go_sem]) rfl ⟨by rw [Hs.out.1, Hs.out.2], hE0.trans hE⟩
  · obtain ⟨n, rfl, hn, hn24, hgr⟩ := isSetB_nat hs
    by_cases h0 : n = 0
    · subst h0
      have Hs : Hid (ftB l ((0 : Nat) : Int) = false ∧ ftV l ((0 : Nat) : Int) = 0) := Lib.hid (ft_no (isOneB_zero l))
      go_enter Try.func40, Try.ntmps40
      go_wp2_with fail
      rw [← Hwb.out]
      go_wp2_with (first | (go_at_call 66; refine (IsSet_val _ _ _ _ (hg _ hE) (hs)).mono ?_; rintro e w' ⟨rfl, hE'⟩; replace hE := hE.trans hE'; clear hE'))
      exact bodyPost_ret (v := .tuple #[.int .i64 0, .bool false]) (by simp [results, Try.results40, go_sem]) rfl ⟨by rw [Hs.out.1, Hs.out.2], hE0.trans hE⟩
    · have h00 : ((n : Int) == 0) = false := by rw [beq_eq_false_iff_ne]; omega
      have Hgr := Lib.hid hgr
      have hone := isOneB_yes hs (by omega)
      have hcT := fun W (hW : Ext wb W) => tiles_any v l n 1 W (hg W hW) Hgr h0 hn (by omega) (by omega)
      have hlenT : (tileL l n 1).length ≤ 1 := tlS_len _ _ _ _ _ _ (by omega)
      have Ho := Lib.hid hone
      clear hone hgr h0
      rcases hT : tileL l n 1 with _ | ⟨x, L⟩
      · have Hs := Lib.hid (ft_nil hT)
        rw [hT] at hcT
        clear hT hlenT
        go_enter Try.func40, Try.ntmps40
        go_wp2_with fail
        rw [← Hwb.out]
        go_wp2_with (first | (go_at_call 66; refine (IsSet_val _ _ _ _ (hg _ hE) (hs)).mono ?_; rintro e w' ⟨rfl, hE'⟩; replace hE := hE.trans hE'; clear hE') | (go_at_call 89; refine (hcT _ hE).mono ?_; rintro e w' ⟨vT, rfl, hO, hE'⟩; replace hE := hE.trans hE'; clear hE'; obtain ⟨aT, cT, rfl, -⟩ := hO.shape; simp only [castL, List.map_nil, List.length_nil] at hO ⊢))
        exact bodyPost_ret (v := .tuple #[.int .i64 0, .bool false]) (by simp [results, Try.results40, go_sem]) rfl ⟨by rw [Hs.out.1, Hs.out.2], hE0.trans hE⟩
      · rw [hT] at hlenT
        have hL : L = [] := List.eq_nil_of_length_eq_zero (by simp at hlenT; simpa using hlenT)
        subst hL
        have Hs := Lib.hid (ft_yes Ho.out hT)
        rw [hT] at hcT
        clear hT hlenT
        go_enter Try.func40, Try.ntmps40
        go_wp2_with fail
        rw [← Hwb.out]
        go_wp2_with (first | (go_at_call 66; refine (IsSet_val _ _ _ _ (hg _ hE) (hs)).mono ?_; rintro e w' ⟨rfl, hE'⟩; replace hE := hE.trans hE'; clear hE') | (go_at_call 89; refine (hcT _ hE).mono ?_; rintro e w' ⟨vT, rfl, hO, hE'⟩; replace hE := hE.trans hE'; clear hE'; obtain ⟨ao, c, adr, rfl, hlen, hadr, hcell⟩ := hO.ints.op; have hix : ∀ W, (Instr.indexAt 24 (.slice ao 1 c) (.int .i64 0)).run Try.prog W = .ok (.pointer (some (adr 0))) W := fun W => ints_index (c := c) (n := (castL [x]).length) elI szI hadr 0 W (by simp [castL]); have hck : w'.cell? (adr 0) = some (.int .i64 (x : Int)) := hcell 0 w' (by simp [castL]) (Ext.refl _); clear hlen hadr hcell; rw [show (castL [x]).length = 1 from rfl] at hO ⊢))
        exact bodyPost_ret (v := .tuple #[.int .i64 x, .bool true]) (by simp [results, Try.results40, go_sem]) rfl ⟨by rw [Hs.out.1, Hs.out.2], hE0.trans hE⟩
end Go.Zz

/- Facts of the law on translates: greedy shifts cover, sizes of intersections. -/
namespace Go.Zz
open Go.RowKit Go.Proofs

theorem gr_cov {l : List Int} {a : Int} (h : isOneB l a = true) : covF l a (greedyF l a) = true := by
  obtain ⟨n, rfl, h0, hn, hn24, hg⟩ := isOneB_nat h
  have hnS := isSetB_of hg hn
  have hgr := greedy_cov hg h0 hn (fullN l) 0 (fullN l) (by rw [sumF_none, left_start]) (Nat.two_pow_pos _) (Nat.le_refl _)
  rw [greedyF_yes h]
  exact (cov_iff hg hnS (isSetB_of hg hgr.2)).2 hgr.1
theorem inter_len (l : List Int) (a b : Int) : (interF l a b).length ≤ 1000 := by
  unfold interF
  split
  · rename_i h
    rw [interTo_len]
    have := ord_bd (isSetB_grp (Bool.and_eq_true_iff.1 h).1)
    omega
  · simp
theorem inter_bd (l : List Int) (a b : Int) (i : Nat) : 0 ≤ nth (interF l a b) i ∧ nth (interF l a b) i ≤ 1000000 := by
  unfold interF
  split
  · unfold interTo
    rw [nth_castL]
    by_cases h : i < ord l
    · have e : nthN ((List.range (ord l)).map (fun x => cnt (a.toNat &&& shiftF l b.toNat x))) i = cnt (a.toNat &&& shiftF l b.toNat i) := by simp [nthN, List.getD, h]
      rw [e]
      have := cnt_le (a.toNat &&& shiftF l b.toNat i)
      omega
    · have e : nthN ((List.range (ord l)).map (fun x => cnt (a.toNat &&& shiftF l b.toNat x))) i = 0 := by simp [nthN, List.getD, h]
      rw [e]; simp
  · simp [nth]
theorem csF_bd (l : List Int) (a : Int) : -1 ≤ csF l a ∧ csF l a ≤ 24 := by
  unfold csF
  split
  · have := cnt_le a.toNat; omega
  · omega
theorem inter_tot {l : List Int} {a b : Int} (h : (isSetB l a && isSetB l b) = true) : totTo (interF l a b) (interF l a b).length = csF l a * csF l b ∧ 0 < (interF l a b).length := by
  have hp := Bool.and_eq_true_iff.1 h
  obtain ⟨m, rfl, -, -, hg⟩ := isSetB_nat hp.1
  obtain ⟨n, rfl, -, -, -⟩ := isSetB_nat hp.2
  constructor
  · rw [inter_cor, cor_tot h, csF_yes hp.1, csF_yes hp.2]
  · rw [interF_yes h, interTo_len]
    have := ord_bd hg
    omega
end Go.Zz
