/- The lengths of factorizations: LengthsOf of the program, by FactorizationsOf's contract. -/
import Derived.Test.YtdlbbpeahicakaaGreatGr19
import Derived.Test.YtdlbbpeahicakaaGreatLy
import Derived.Test.YtdlbbpeahicakaaGreatGr11
import Derived.Test.YtdlbbpeahicakaaGreatGr24
import Derived.Test.YtdlbbpeahicakaaGreatGr20
import Derived.Test.YtdlbbpeahicakaaGreatGr7
import Derived.Test.YtdlbbpeahicakaaGreatGr21
import Derived.Test.YtdlbbpeahicakaaGreatGr22
namespace Go.Zz
open Go.RowKit Go.Proofs
set_option maxHeartbeats 1000000
set_option maxRecDepth 8000

theorem lens_compact (F : List Nat) : Lib.compact ((castL F).mergeSort fun x y => decide (x ≤ y)) = castL (lensL F) := by
  have hp : ((castL F).mergeSort fun x y => decide (x ≤ y)).Pairwise (· ≤ ·) := by
    have := List.pairwise_mergeSort (le := fun x y : Int => decide (x ≤ y)) (fun a b c h1 h2 => by simp at *; omega) (fun a b => by simp; omega) (castL F)
    exact this.imp (fun h => by simpa using h)
  obtain ⟨h1, h2⟩ := compact_sorted _ hp
  refine asc_one (fun x => ?_) h1 ?_
  · rw [h2, List.mem_mergeSort]
    unfold castL
    rw [List.mem_map, List.mem_map]
    constructor
    · rintro ⟨n, hn, e⟩; exact ⟨n, (lens_mem F n).2 hn, e⟩
    · rintro ⟨n, hn, e⟩; exact ⟨n, (lens_mem F n).1 hn, e⟩
  · unfold castL
    rw [List.pairwise_map]
    exact (lens_asc F).imp (fun h => by omega)
theorem OwnF.grownI {w0 wz w w' : World} {v u : Value} {A : List Nat} {l : List Int} (h : OwnF w0 w v A) (hO : Own 3 wz w u l) (hg : w.grownBy w' u.ownBlock) : OwnF w0 w' v A := by
  have hB : ∀ g, u.ownBlock = some g → ∃ cs, Blk w g 3 cs := fun g e => by
    obtain ⟨⟨-, h2⟩, -⟩ := hO
    rcases h2 with ⟨rfl, -⟩ | ⟨g', cap, cur, rfl, -, hh, -⟩
    · cases e
    · cases e; exact ⟨cur, hh⟩
  obtain ⟨M, h1, hL, h5⟩ := h
  obtain ⟨h2, h3, h4⟩ := id hL
  refine ⟨M, h1, ⟨h2, h3.kept hg ?_, h4⟩, fun i hi => ?_⟩
  · cases hv : v.ownBlock with
    | none => simp
    | some g =>
      simp
      intro e
      obtain ⟨cs, hb⟩ := hB g e.symm
      exact hL.not hb (by decide) hv
  · obtain ⟨k0, M', k1, k2, k3⟩ := h5 i hi
    refine ⟨k0, M', k1, k2, ?_⟩
    rcases k3 with k3 | ⟨g, cap, cs, k3, k4, k5, k6⟩
    · exact Or.inl k3
    · refine Or.inr ⟨g, cap, cs, k3, k4, k5.grown hg (fun k hk e => ?_), k6⟩
      subst e
      obtain ⟨cs2, hb⟩ := hB k hk
      have hb' : w.heap[k]? = some (.cells cs2 3 (0, 0)) := hb
      have k5' : w.heap[k]? = some (.cells cs 22 (0, 0)) := k5
      rw [hb'] at k5'
      simp at k5'
theorem LengthsOf_by (v u : Value) (l R : List Int) (w : World) (h : Ints w v l) (hu : Ints w u R)
    (cF : ∀ W, Ints W v l → Ints W u R → Calls Tryz.prog 73 #[.agg #[v], u] W fun e w' => (∃ v', e = .returned (.tuple #[v', .bool (facB l R)]) ∧ OwnF W w' v' (facV l R)) ∧ Ext W w') :
    Calls Tryz.prog 74 #[.agg #[v], u] w fun e w' => (∃ v', e = .returned v' ∧ Own 3 w w' v' (castL (lensL (facV l R)))) ∧ Ext w w' := by
  obtain ⟨wb, hwb⟩ : ∃ wb, wb = w.alloc (.cells #[v] 27) := ⟨_, rfl⟩
  have hE0 := (Ext.refl w).alloc (.cells #[v] 27)
  have hb := box_cell w v 27
  rw [← hwb] at hE0 hb
  have hg : ∀ W, Ext wb W → Ints W v l := fun W hW => h.ext (hE0.trans hW)
  have hE := Ext.refl wb
  have Hsz : Hid (w.heap.size + 1 = wb.heap.size) := Lib.hid (by rw [hwb]; simp [go_sem])
  have Hwb := Lib.hid hwb
  clear hwb h
  have hu2 : ∀ W, Ext wb W → Ints W u R := fun W hW => hu.ext (hE0.trans hW)
  have hO0 : Own 3 wb (wb.alloc (.cells #[] 3)) (.slice (some ⟨wb.heap.size, 0, none⟩) 0 0) [] := own_made (by omega) hE [] rfl
  have hE1 := hE.alloc (.cells #[] 3)
  have hb1 := hb _ hE1
  have cF2 := fun W (hW : Ext wb W) => cF W (hg W hW) (hu2 W hW)
  have hF1 := facV_len (l := l) (R := R)
  obtain ⟨F, hFd⟩ : ∃ F, F = facV l R := ⟨_, rfl⟩
  rw [← hFd] at hF1 ⊢
  simp only [← hFd] at cF2
  have HC := Lib.hid (lens_compact F)
  clear hFd cF
  go_enter Tryz.func74, Tryz.ntmps74
  go_wp2_with fail
  rw [← Hwb.out]; rw [Hsz.out]
  go_wp2_with (go_at_call 73; refine (cF2 _ hE1).mono ?_; rintro e w1 ⟨⟨v1, rfl, hF⟩, hE2⟩; obtain ⟨aoF, cFa, rfl, -⟩ := hF.shape)
  have hO1 := hO0.ext hE2
  have hE3 := hE1.trans hE2
  clear hO0 hE1 hE2
  go_loopw [5, 19] (fun so sj wr => ∃ j : Nat, j ≤ F.length ∧ sj = .int .i64 j ∧ Own 3 wb wr so (castL (F.take j)) ∧ OwnF (wb.alloc (.cells #[] 3)) wr (.slice aoF F.length cFa) F ∧ Ext wb wr) (fun _ sj _ => F.length - (RowKit.intOf sj).toNat)
  case atStart => exact ⟨0, by omega, rfl, hO1, hF, hE3⟩
  case round =>
    clear hO1 hF hE3
    obtain ⟨j, hj, rfl, hO, hF, hEr⟩ := hrel
    by_cases hlt : j < F.length
    · have hltI : (j : Int) < (F.length : Int) := by omega
      have hF' := hF
      obtain ⟨ao3, c3, hv3, -, hc3⟩ := hF'.shape
      simp only [Value.slice.injEq] at hv3
      obtain ⟨rfl, -, rfl⟩ := hv3
      obtain ⟨gF, uF, rfl, hcu, hRu⟩ := hc3 j hlt
      have hixF := rowV_ix elW szW gF F.length cFa
      obtain ⟨d, hd⟩ : ∃ d, d = F.getD j 0 := ⟨_, rfl⟩
      rw [← hd] at hRu
      obtain ⟨aoU, cU, rfl⟩ := hRu.shape
      have Hs : Hid (castL (F.take (j + 1)) = castL (F.take j) ++ [(d : Int)]) := Lib.hid (by rw [show F.take (j + 1) = F.take j ++ [d] by rw [hd, List.take_succ_eq_append_getElem hlt]; simp [List.getD, hlt], castL_snoc])
      have hln : (castL (F.take j)).length < 17592186044416 := by rw [castL_len, List.length_take]; omega
      clear hd hc3 hRu
      go_wp2_with (at_builtin; refine wp_append1F slI rfl _ _ rfl wb _ _ _ _ hO hEr hln rfl rfl ?_; intro v2 w2 hO2 hG2 hN2)
      go_roundw
      case rel => exact ⟨j + 1, by omega, by go_num, by rw [Hs.out]; exact hO2, hF'.grownI hO hG2, hEr.grown hG2 (fun g hg => (hO.blk g hg).1)⟩
      case measure => (simp [RowKit.intOf]; omega)
    · have hltI : ¬ (j : Int) < (F.length : Int) := by omega
      have hjl : j = F.length := by omega
      subst hjl
      rw [List.take_length] at hO
      have cS := sort_ownB hO hEr (by rw [castL_len]; omega)
      go_wp2_with (first | (go_at_call 160; refine cS.mono ?_; rintro e w2 ⟨rfl, hO2, hE2⟩; have cC := compact_ownB hO2 hE2 (by rw [List.length_mergeSort, castL_len]; omega)) | (go_at_call 161; refine cC.mono ?_; rintro e w3 ⟨v3, rfl, hO3, hE3⟩))
      go_ret
      exact ⟨⟨_, rfl, by rw [HC.out] at hO3; exact hO3.mono hE0⟩, hE0.trans hE3⟩
end Go.Zz

/- FactorizationsOf of the program. -/
namespace Go.Zz
open Go.RowKit Go.Proofs
set_option maxHeartbeats 4000000
set_option maxRecDepth 8000

theorem OwnC.keep {w0 w W : World} {v : Value} {A : List (List Nat)} (h : OwnC w0 w v A) (hk : ∀ k T cs, Blk w k T cs → (T = 3 ∨ T = 22) → Blk W k T cs) : ∃ L : List Value, L.length = A.length ∧ OwnL 22 w0 W v L ∧ ∀ i, i < A.length → RowB w (L.getD i (.slice none 0 0)) (A.getD i []) ∧ RowB W (L.getD i (.slice none 0 0)) (A.getD i []) := by
  obtain ⟨L, h1, ⟨h2, h3, h4⟩, h5⟩ := h
  refine ⟨L, h1, ⟨h2, ⟨h3.1, ?_⟩, h4⟩, fun i hi => ?_⟩
  · rcases h3.2 with h | ⟨g, cap, cur, rfl, hg, hh, rest⟩
    · exact Or.inl h
    · exact Or.inr ⟨g, cap, cur, rfl, hg, hk g _ cur hh (Or.inr rfl), rest⟩
  · have h := h5 i hi
    obtain ⟨k0, g, cap, cs, k1, k2, k3, k4⟩ := id h
    exact ⟨h, k0, g, cap, cs, k1, k2, hk g _ cs k3 (Or.inl rfl), k4⟩
theorem facS_mk {w00 w1 w10 : World} {gA cA : Nat} {A : List (List Nat)} {n bA bO bL bT bY gL o : Nat} {vT vY vo0 : Value} {cs0 : Array Value} {C : List Int}
    (hO : OwnC w00 w1 (.slice (some ⟨gA, 0, none⟩) A.length cA) A) (hE : Ext w1 w10) (hgL : w1.heap.size ≤ gL)
    (hBO : Blk w10 bO 75 #[vo0]) (hBo : Blk w10 o 107 cs0) (hR : RowI w10 gL C)
    (hBA : Blk w10 bA 107 #[.slice (some ⟨gA, 0, none⟩) A.length cA]) (hoA : o ≠ bA) (hBL : Blk w10 bL 22 #[.slice (some ⟨gL, 0, none⟩) n n])
    (hT : Blk w10 bT 85 #[vT]) (hY : Blk w10 bY 115 #[vY]) :
    ∃ Y : Nat → Value, ∀ W, Fr2 bO gL (some o) w10 W → FacS w00 gA cA Y A n bA bL gL bT bY vT vY W := by
  obtain ⟨L, h1, h2, h3⟩ := hO
  refine ⟨fun i => L.getD i (.slice none 0 0), fun W hF => ?_⟩
  have keep : ∀ k T cs, Blk w1 k T cs → (T = 3 ∨ T = 22) → Blk W k T cs := fun k T cs hB hT => by
    have hB' := hB.ext hE
    have hlt := hB.lt
    refine hF.blk hB' (blkT_ne hB' hBO ?_) (by omega) (fun e => ?_)
    · rcases hT with rfl | rfl <;> decide
    · cases e
      refine blkT_ne hB' hBo ?_ rfl
      rcases hT with rfl | rfl <;> decide
  obtain ⟨L2, k1, k2, k3⟩ := OwnC.keep ⟨L, h1, h2, h3⟩ keep
  have hL2 : ∀ i, i < A.length → L2.getD i (.slice none 0 0) = L.getD i (.slice none 0 0) := fun i hi => by
    obtain ⟨ao, c, hv, -, hc⟩ := h2.shape
    obtain ⟨ao2, c2, hv2, -, hc2⟩ := k2.shape
    simp only [Value.slice.injEq] at hv hv2
    obtain ⟨rfl, -, rfl⟩ := hv
    obtain ⟨rfl, -, rfl⟩ := hv2
    obtain ⟨g, hg, hh⟩ := hc i (by omega)
    obtain ⟨g2, hg2, hh2⟩ := hc2 i (by omega)
    cases hg
    cases hg2
    -- the header's block is kept
    obtain ⟨a1, a2, a3⟩ := h2
    rcases a2.2 with ⟨hv, -⟩ | ⟨g', cap, cur, hv, hg', hh', -⟩
    · cases hv
    · simp only [Value.slice.injEq, Option.some.injEq, Addr.mk.injEq, and_true] at hv
      obtain ⟨rfl, -, rfl⟩ := hv
      have q := keep gA 22 cur hh' (Or.inr rfl)
      have e1 : w1.cell? ⟨gA, i, none⟩ = W.cell? ⟨gA, i, none⟩ := by
        unfold World.cell?
        have q' : W.heap[gA]? = some (.cells cur 22 (0, 0)) := q
        simp only [hh', q']
      rw [e1, hh2] at hh
      exact (Option.some.inj hh)
  refine ⟨hF.blk hBA (blkT_ne hBA hBO (by decide)) (blkT_ne hBA hR (by decide)) (fun e => hoA (by cases e; rfl)), ⟨L2, k1, k2, fun i hi => (k3 i hi).2⟩, fun i hi => ?_, hF.blk hBL (blkT_ne hBL hBO (by decide)) (blkT_ne hBL hR (by decide)) (fun e => by cases e; exact blkT_ne hBL hBo (by decide) rfl), ?_, ?_⟩
  · obtain ⟨ao, c, hv, -, hc⟩ := k2.shape
    simp only [Value.slice.injEq] at hv
    obtain ⟨rfl, -, rfl⟩ := hv
    obtain ⟨g, hg, hh⟩ := hc i (by omega)
    cases hg
    rw [hL2 i hi] at hh
    have r := k3 i hi
    rw [hL2 i hi] at r
    refine ⟨hh, r.2, fun e => ?_⟩
    obtain ⟨-, g, cap, cs, q1, -, q3, -⟩ := r.1
    rw [q1] at e
    have e2 : g = gL := by simpa [Value.ownBlock] using e
    have := q3.lt
    omega
  · exact (hF.blk hT (blkT_ne hT hBO (by decide)) (blkT_ne hT hR (by decide)) (fun e => by cases e; exact blkT_ne hT hBo (by decide) rfl)).cell (i := 0) rfl
  · exact (hF.blk hY (blkT_ne hY hBO (by decide)) (blkT_ne hY hR (by decide)) (fun e => by cases e; exact blkT_ne hY hBo (by decide) rfl)).cell (i := 0) rfl
theorem cnt_none (n : Nat) : CntOf n (List.replicate n 0) (castL []) := ⟨by simp, fun x hx => by simp [nth, List.getD, hx, castL]⟩
theorem cnt_step {n : Nat} {C : List Int} {X : List Nat} {j : Nat} (h : CntOf n C (castL (X.take j))) (hj : j < X.length) (hx : nthN X j < n) : CntOf n (C.set (nthN X j) (nth C (nthN X j) + 1)) (castL (X.take (j + 1))) := by
  refine ⟨by rw [List.length_set]; exact h.1, fun y hy => ?_⟩
  rw [nth_setI (by rw [h.1]; exact hx), take_nthN X j hj, castL_count, List.count_append, List.count_singleton]
  have hy2 := h.2 y hy
  rw [castL_count] at hy2
  by_cases e : nthN X j = y
  · subst e
    rw [if_pos rfl, hy2]; simp
  · have : (nthN X j == y) = false := by simpa using e
    rw [if_neg e, hy2, this]; simp
theorem FactorizationsOf_no (v u : Value) (l R : List Int) (w : World) (h : Ints w v l) (hu : Ints w u R) (hf : facB l R = false) :
    Calls Tryz.prog 73 #[.agg #[v], u] w fun e w' => (∃ v', e = .returned (.tuple #[v', .bool false]) ∧ OwnF w w' v' []) ∧ Ext w w' := by
  obtain ⟨wb, hwb⟩ : ∃ wb, wb = w.alloc (.cells #[v] 27) := ⟨_, rfl⟩
  have hE0 := (Ext.refl w).alloc (.cells #[v] 27)
  have hb := box_cell w v 27
  rw [← hwb] at hE0 hb
  have hg : ∀ W, Ext wb W → Ints W v l := fun W hW => h.ext (hE0.trans hW)
  have hE := Ext.refl wb
  have Hsz : Hid (w.heap.size + 1 = wb.heap.size) := Lib.hid (by rw [hwb]; simp [go_sem])
  have Hwb := Lib.hid hwb
  clear hwb h
  have hu2 : ∀ W, Ext wb W → Ints W u R := fun W hW => hu.ext (hE0.trans hW)
  obtain ⟨aoU, cU, adrU, rfl, hlU, hadrU, hcU⟩ := hu.op
  clear hadrU hcU hu
  have hO0 : OwnF wb (wb.alloc (.cells #[] 107)) (.slice (some ⟨wb.heap.size, 0, none⟩) 0 0) [] := ownF_made hE
  have hE1 := (hE.alloc (.cells #[] 107)).alloc (.cells #[.slice (some ⟨wb.heap.size, 0, none⟩) 0 0] 75)
  have hb1 := hb _ hE1
  have kO : ((wb.alloc (.cells #[] 107)).alloc (.cells #[.slice (some ⟨wb.heap.size, 0, none⟩) 0 0] 75)).cell? ⟨(wb.alloc (.cells #[] 107)).heap.size, 0, none⟩ = some (.slice (some ⟨wb.heap.size, 0, none⟩) 0 0) := (Blk.new _ _ _).cell (i := 0) rfl
  have hs1 : (wb.alloc (.cells #[] 107)).heap.size = wb.heap.size + 1 := by simp
  rw [hs1] at kO
  have hO1 := hO0.ext ((Ext.refl _).alloc (.cells #[.slice (some ⟨wb.heap.size, 0, none⟩) 0 0] 75))
  clear hs1 hO0
  obtain ⟨wc, hwc⟩ : ∃ wc, wc = (wb.alloc (.cells #[] 107)).alloc (.cells #[.slice (some ⟨wb.heap.size, 0, none⟩) 0 0] 75) := ⟨_, rfl⟩
  rw [← hwc] at hE1 hb1 kO hO1
  have Hwc := Lib.hid hwc
  clear hwc
  have kO2 := fun W (hW : Ext wc W) => hW.cell kO
  have cZ := fun W (hW : Ext wb W) => IsZeroSum_any v _ l R W (hg W hW) (hu2 W hW)
  cases hA : atB l
  · have cA := AtomsOf_no v l wc (hg _ hE1) hA
    clear hA hf cZ
    go_enter Tryz.func73, Tryz.ntmps73
    go_wp2_with fail
    rw [← Hwb.out]; rw [Hsz.out]; rw [← Hwc.out]
    go_wp2_with (go_at_call 156; refine cA.mono ?_; rintro e w1 ⟨ao1, rfl, hE2⟩; have kO3 := kO2 (w1.alloc (.cells #[.slice ao1 0 0] 107)) (hE2.alloc _))
    have hE3 := hE2.alloc (.cells #[.slice ao1 0 0] 107)
    exact bodyPost_ret (v := .tuple #[.slice (some ⟨wb.heap.size, 0, none⟩) 0 0, .bool false]) (by simp [results, Tryz.results73, go_sem]) rfl ⟨⟨_, rfl, (hO1.ext hE3).mono hE0⟩, hE0.trans (hE1.trans hE3)⟩
  · have cA := AtomsOf_yes v l wc (hg _ hE1) hA
    cases hZ : zsB l R
    · rw [hZ] at cZ
      clear hA hf hZ
      go_enter Tryz.func73, Tryz.ntmps73
      go_wp2_with fail
      rw [← Hwb.out]; rw [Hsz.out]; rw [← Hwc.out]
      go_wp2_with (first | (go_at_call 156; refine cA.mono ?_; rintro e w1 ⟨v1, rfl, hO5, hE2⟩; obtain ⟨ao1, c1, rfl, -⟩ := hO5.shape; have hE3 := hE2.alloc (.cells #[.slice ao1 (atS l).length c1] 107); have hE13 := hE1.trans hE3; have hb2 := hb _ hE13) | (go_at_call 89; refine (cZ _ hE13).mono ?_; rintro e w2 ⟨rfl, hE4⟩; have hE5 := hE3.trans hE4; have kO3 := kO2 _ hE5))
      exact bodyPost_ret (v := .tuple #[.slice (some ⟨wb.heap.size, 0, none⟩) 0 0, .bool false]) (by simp [results, Tryz.results73, go_sem]) rfl ⟨⟨_, rfl, (hO1.ext hE5).mono hE0⟩, hE0.trans (hE1.trans hE5)⟩
    · rw [hZ] at cZ
      have hl : ¬ R.length ≤ 10 := fun hl => by unfold facB at hf; rw [hA, hZ, decide_eq_true hl] at hf; cases hf
      have hlI : (10 : Int) < (R.length : Int) := by omega
      clear hA hf hZ hl
      go_enter Tryz.func73, Tryz.ntmps73
      go_wp2_with fail
      rw [← Hwb.out]; rw [Hsz.out]; rw [← Hwc.out]
      go_wp2_with (first | (go_at_call 156; refine cA.mono ?_; rintro e w1 ⟨v1, rfl, hO5, hE2⟩; obtain ⟨ao1, c1, rfl, -⟩ := hO5.shape; have hE3 := hE2.alloc (.cells #[.slice ao1 (atS l).length c1] 107); have hE13 := hE1.trans hE3; have hb2 := hb _ hE13) | (go_at_call 89; refine (cZ _ hE13).mono ?_; rintro e w2 ⟨rfl, hE4⟩; have hE5 := hE3.trans hE4; have kO3 := kO2 _ hE5))
      exact bodyPost_ret (v := .tuple #[.slice (some ⟨wb.heap.size, 0, none⟩) 0 0, .bool false]) (by simp [results, Tryz.results73, go_sem]) rfl ⟨⟨_, rfl, (hO1.ext hE5).mono hE0⟩, hE0.trans (hE1.trans hE5)⟩
theorem FactorizationsOf_yes (v u : Value) (l R : List Int) (w : World) (h : Ints w v l) (hu : Ints w u R) (hf : facB l R = true) :
    Calls Tryz.prog 73 #[.agg #[v], u] w fun e w' => (∃ v', e = .returned (.tuple #[v', .bool true]) ∧ OwnF w w' v' (facF (atS l) (R.length + 1) 0 R)) ∧ Ext w w' := by
  obtain ⟨wb, hwb⟩ : ∃ wb, wb = w.alloc (.cells #[v] 27) := ⟨_, rfl⟩
  have hE0 := (Ext.refl w).alloc (.cells #[v] 27)
  have hb := box_cell w v 27
  rw [← hwb] at hE0 hb
  have hg : ∀ W, Ext wb W → Ints W v l := fun W hW => h.ext (hE0.trans hW)
  have hE := Ext.refl wb
  have Hsz : Hid (w.heap.size + 1 = wb.heap.size) := Lib.hid (by rw [hwb]; simp [go_sem])
  have Hwb := Lib.hid hwb
  clear hwb h
  have hu2 : ∀ W, Ext wb W → Ints W u R := fun W hW => hu.ext (hE0.trans hW)
  obtain ⟨hA, hZ, hl⟩ : atB l = true ∧ zsB l R = true ∧ R.length ≤ 10 := by unfold facB at hf; simpa using hf
  obtain ⟨hgr, h7⟩ : isGrp l = true ∧ ord l ≤ 7 := by unfold atB at hA; simpa using hA
  have Hgr := Lib.hid hgr
  have cZ := fun W (hW : Ext wb W) => IsZeroSum_any v _ l R W (hg W hW) (hu2 W hW)
  have cO := fun W (hW : Ext wb W) => OrderOf_grp v l W (hg W hW) Hgr
  simp only [hZ] at cZ
  have h48 : (atS l).length ≤ 48 := by rw [atS_len]; exact atL_le hgr h7
  have h1a : ∀ a ∈ atS l, 1 ≤ a.length := fun a ha => (atL_good hgr h7 (atS_mem ha)).1
  have hAn : ∀ a ∈ atS l, a.length ≤ 50 ∧ ∀ x ∈ a, x < ord l := fun a ha => by have := atL_good hgr h7 (atS_mem ha); exact ⟨by omega, this.2.2⟩
  have hpos : 0 < (atS l).length := by rw [atS_len]; rw [← atS_len]; exact (hdA_of (head_chk hgr h7)).one
  have HBd := Lib.hid (fac_bd hgr h7 (R.length + 1) 0 hl)
  have hseq : seqB l R = true := by unfold zsB at hZ; simp only [Bool.and_eq_true] at hZ; exact hZ.1
  have hlI : ¬ (10 : Int) < (R.length : Int) := by omega
  obtain ⟨X, rfl, hXn, -, -, -⟩ := seqB_nat hseq
  rw [castL_len] at hl hlI HBd ⊢
  obtain ⟨aoU, cU, adrU, rfl, hadrU, hcU⟩ := hu.nats
  have hixU := ints_index (c := cU) elI szI hadrU
  have HcU := Lib.hid (fun W (hW : Ext wb W) i hi => hcU i W hi (hE0.trans hW))
  have hO0 : OwnF wb (wb.alloc (.cells #[] 107)) (.slice (some ⟨wb.heap.size, 0, none⟩) 0 0) [] := ownF_made hE
  have hBo0 : Blk (wb.alloc (.cells #[] 107)) wb.heap.size 107 #[] := Blk.new _ _ _
  have hE1 := (hE.alloc (.cells #[] 107)).alloc (.cells #[.slice (some ⟨wb.heap.size, 0, none⟩) 0 0] 75)
  have hb1 := hb _ hE1
  have hs1 : (wb.alloc (.cells #[] 107)).heap.size = wb.heap.size + 1 := by simp
  have BO : Blk ((wb.alloc (.cells #[] 107)).alloc (.cells #[.slice (some ⟨wb.heap.size, 0, none⟩) 0 0] 75)) (wb.heap.size + 1) 75 #[.slice (some ⟨wb.heap.size, 0, none⟩) 0 0] := by rw [← hs1]; exact Blk.new _ _ _
  have eE := (Ext.refl (wb.alloc (.cells #[] 107))).alloc (.cells #[.slice (some ⟨wb.heap.size, 0, none⟩) 0 0] 75)
  have hO1 := hO0.ext eE
  have Bo := hBo0.ext eE
  obtain ⟨wc, hwc⟩ : ∃ wc, wc = (wb.alloc (.cells #[] 107)).alloc (.cells #[.slice (some ⟨wb.heap.size, 0, none⟩) 0 0] 75) := ⟨_, rfl⟩
  rw [← hwc] at hE1 hb1 hO1 BO Bo
  have Hwc := Lib.hid hwc
  have cA := AtomsOf_yes v l wc (hg _ hE1) hA
  obtain ⟨A, hAd⟩ : ∃ A, A = atS l := ⟨_, rfl⟩
  rw [← hAd] at h48 h1a hAn hpos HBd cA ⊢
  obtain ⟨n, hnd⟩ : ∃ n, n = ord l := ⟨_, rfl⟩
  simp only [← hnd] at cO h7 hAn hXn
  have H1a := Lib.hid h1a
  have HAn := Lib.hid hAn
  have HXn := Lib.hid hXn
  have hmf : ∀ (fn : Fn) (first cap : Array Value) (w : World), (Instr.makeFunc fn first cap).run Tryz.prog w = .ok (.func fn first cap) w := fun _ _ _ _ => rfl
  clear hwc hO0 hs1 eE hBo0 hA hZ hf hgr hseq hadrU hcU hu hAd hnd h1a hAn hXn
  go_enter Tryz.func73, Tryz.ntmps73
  go_wp2_with fail
  rw [← Hwb.out]; rw [Hsz.out]; rw [← Hwc.out]
  go_wp2_with (first | (go_at_call 156; refine cA.mono ?_; rintro e w1 ⟨v1, rfl, hO5, hE2⟩; obtain ⟨ao1, c1, rfl, -, hcA⟩ := hO5.shape; obtain ⟨gA, -, rfl, -, -⟩ := hcA 0 hpos; have hE3 := hE2.alloc (.cells #[.slice (some ⟨gA, 0, none⟩) A.length c1] 107); have hE13 := hE1.trans hE3; have hb2 := hb _ hE13) | (go_at_call 89; refine (cZ _ hE13).mono ?_; rintro e w2 ⟨rfl, hE4⟩; have hE5 := hE13.trans hE4; have hb3 := hb _ hE5) | (go_at_call 157; refine (cO _ hE5).mono ?_; rintro e w3 ⟨rfl, hE6⟩; have hE7 := hE5.trans hE6) | (at_make; refine wp_make_ints slI rfl _ _ rfl _ _ n rfl rfl (by omega) (Ext.refl _) ?_; intro w4 hO4 hE8))
  obtain ⟨w5, h5⟩ : ∃ x, x = w4.alloc (.cells #[.slice (some ⟨w3.heap.size, 0, none⟩) n n] 22) := ⟨_, rfl⟩
  rw [← h5]
  have s5 : w5.heap.size = w4.heap.size + 1 := by rw [h5]; simp
  have e45 : Ext w4 w5 := by rw [h5]; exact (Ext.refl _).alloc _
  have R4 : RowI w4 w3.heap.size (List.replicate n 0) := own_blk0 hO4 (by simp)
  have BL : Blk w5 w4.heap.size 22 #[.slice (some ⟨w3.heap.size, 0, none⟩) n n] := by rw [h5]; exact Blk.new _ _ _
  have s1 := (hO5.ext ((Ext.refl w1).alloc (.cells #[.slice (some ⟨gA, 0, none⟩) A.length c1] 107)))
  have BA : Blk (w1.alloc (.cells #[.slice (some ⟨gA, 0, none⟩) A.length c1] 107)) w1.heap.size 107 #[.slice (some ⟨gA, 0, none⟩) A.length c1] := Blk.new _ _ _
  have e1a := (Ext.refl w1).alloc (.cells #[.slice (some ⟨gA, 0, none⟩) A.length c1] 107)
  have e15 : Ext w1 w5 := e1a.trans (hE4.trans (hE6.trans (hE8.trans e45)))
  have e1a5 : Ext (w1.alloc (.cells #[.slice (some ⟨gA, 0, none⟩) A.length c1] 107)) w5 := hE4.trans (hE6.trans (hE8.trans e45))
  have ec5 : Ext wc w5 := hE2.trans e15
  have z1 : w1.heap.size < w3.heap.size := Nat.lt_of_lt_of_le BA.lt (hE4.trans hE6).size
  have z34 : w3.heap.size < w4.heap.size := R4.lt
  have hR5 : RowI w5 w3.heap.size (List.replicate n 0) := R4.ext e45
  have BA5 := BA.ext e1a5
  have BO5 := BO.ext ec5
  have Bo5 := Bo.ext ec5
  have hO15 := hO1.ext ec5
  have zo : wb.heap.size < w1.heap.size := by have := BO.lt; have := hE2.size; omega
  have eb5 : Ext wb w5 := hE1.trans ec5
  have HO5 := Lib.hid hO5
  have HR5 := Lib.hid hR5
  have H15 := Lib.hid e15
  have HBA := Lib.hid BA5
  have HBO := Lib.hid BO5
  have HBo := Lib.hid Bo5
  have HBL := Lib.hid BL
  have HO15 := Lib.hid hO15
  have Heb := Lib.hid eb5
  have hixL := dv_index w3.heap.size n n
  clear h5 hO4 BL R4 s1 BA e1a e15 e1a5 ec5 e45 hO5 BA5 BO5 Bo5 hO15 hO1 BO Bo hE8 hb2 hb3 hE13 hE5 hE3 hE7 cA cZ cO eb5
  go_loopw [11, 39] (fun _ sj wr => ∃ (j : Nat) (C : List Int), j ≤ X.length ∧ sj = .int .i64 j ∧ CntOf n C (castL (X.take j)) ∧ RowI wr w3.heap.size C ∧ w5.grownBy wr (some w3.heap.size)) (fun _ sj _ => X.length - (RowKit.intOf sj).toNat)
  case atStart => exact ⟨0, _, by omega, rfl, cnt_none n, hR5, grown_refl _ _⟩
  case round =>
    clear hR5
    obtain ⟨j, C, hj, rfl, hC, hR, hG⟩ := hrel
    have hEr : Ext wb wr := Heb.out.grown hG (fun g hg => by cases hg; have := Heb.out.size; have := zo; have := z1; omega)
    have kL : wr.cell? ⟨w4.heap.size, 0, none⟩ = some (.slice (some ⟨w3.heap.size, 0, none⟩) n n) := (HBL.out.grown hG (fun g hg e => by cases hg; omega)).cell (i := 0) rfl
    by_cases hlt : j < X.length
    · have hltI : (j : Int) < (X.length : Int) := by omega
      have hcx := HcU.out wr hEr j hlt
      have hx := HXn.out _ (nthN_mem hlt)
      have hlen : C.length = n := hC.1
      have hst := cnt_step hC hlt hx
      have hcc := hR.cell (i := nthN X j) (by omega)
      have hbd : 0 ≤ nth C (nthN X j) ∧ nth C (nthN X j) ≤ 10 := cnt_bd hC (by rw [castL_len, List.length_take]; omega) _
      have hfr := hR.fr (nthN X j)
      have hRf := hR.set (nthN X j) (nth C (nthN X j) + 1)
      have hGf := grown_trans hG (Nw.refl _ _) (grow_setI wr w3.heap.size (nthN X j) (.int .i64 (nth C (nthN X j) + 1)))
      obtain ⟨x, hxd⟩ : ∃ x, x = nthN X j := ⟨_, rfl⟩
      rw [← hxd] at hcx hx hst hcc hbd hfr hRf hGf
      obtain ⟨y, hyd⟩ : ∃ y, y = nth C x := ⟨_, rfl⟩
      rw [← hyd] at hst hcc hbd hRf hGf
      have hwk : IntKind.i64.wrap (y + 1) = y + 1 := IntWalk.i64_in _ (by omega)
      have Hst := Lib.hid hst
      have HRf := Lib.hid hRf
      have HGf := Lib.hid hGf
      have Hlen := Lib.hid hlen
      clear hxd hyd hC hR hst hRf hGf hlen
      go_wp2_with fail
      go_roundw
      case rel => exact ⟨j + 1, _, by omega, by go_num, Hst.out, HRf.out, HGf.out⟩
      case measure => (simp [RowKit.intOf]; omega)
    · have hltI : ¬ (j : Int) < (X.length : Int) := by omega
      have hjl : j = X.length := by omega
      subst hjl
      rw [List.take_length] at hC
      have HC := Lib.hid hC
      have HR := Lib.hid hR
      have HG := Lib.hid hG
      clear hC hR hG
      go_wp2_with fail
      obtain ⟨w7, h7⟩ : ∃ x, x = wr.alloc (.cells #[.func (.func 158) #[] #[.pointer (some ⟨w4.heap.size, 0, none⟩)]] 85) := ⟨_, rfl⟩
      rw [← h7]
      obtain ⟨w8, h8⟩ : ∃ x, x = w7.alloc (.cells #[.func (.func 159) #[] #[.pointer (some ⟨w1.heap.size, 0, none⟩), .pointer (some ⟨wb.heap.size + 1, 0, none⟩), .pointer (some ⟨wr.heap.size, 0, none⟩), .pointer (some ⟨wr.heap.size + 1, 0, none⟩)]] 115) := ⟨_, rfl⟩
      rw [← h8]
      have hs7 : w7.heap.size = wr.heap.size + 1 := by rw [h7]; simp
      have BT : Blk w7 wr.heap.size 85 #[.func (.func 158) #[] #[.pointer (some ⟨w4.heap.size, 0, none⟩)]] := by rw [h7]; exact Blk.new _ _ _
      have BY : Blk w8 (wr.heap.size + 1) 115 #[.func (.func 159) #[] #[.pointer (some ⟨w1.heap.size, 0, none⟩), .pointer (some ⟨wb.heap.size + 1, 0, none⟩), .pointer (some ⟨wr.heap.size, 0, none⟩), .pointer (some ⟨wr.heap.size + 1, 0, none⟩)]] := by rw [h8, ← hs7]; exact Blk.new _ _ _
      have e7 : Ext wr w7 := by rw [h7]; exact (Ext.refl _).alloc _
      have e8 : Ext w7 w8 := by rw [h8]; exact (Ext.refl _).alloc _
      obtain ⟨w9, h9⟩ : ∃ x, x = w8.alloc (.cells #[] 3) := ⟨_, rfl⟩
      rw [← h9]
      have e9 : Ext w8 w9 := by rw [h9]; exact (Ext.refl _).alloc _
      clear h7 h8 h9
      have er9 := e7.trans (e8.trans e9)
      have e15 := (H15.out.grown HG.out (fun g hg => by cases hg; omega)).trans er9
      have BA9 := (HBA.out.grown HG.out (fun g hg e => by cases hg; omega)).ext er9
      have BO9 := (HBO.out.grown HG.out (fun g hg e => by cases hg; omega)).ext er9
      have Bo9 := (HBo.out.grown HG.out (fun g hg e => by cases hg; omega)).ext er9
      have BL9 := (HBL.out.grown HG.out (fun g hg e => by cases hg; omega)).ext er9
      have hO9 := ((HO15.out.row HR5.out HG.out).ext er9).mono hE0
      have hR9 := HR.out.ext er9
      have eW9 : Ext w w9 := hE0.trans ((Heb.out.grown HG.out (fun g hg => by cases hg; omega)).trans er9)
      have zw := hE0.size
      obtain ⟨Y, hY⟩ := facS_mk HO5.out e15 (by omega) BO9 Bo9 hR9 BA9 (by omega) BL9 ((BT.ext e8).ext e9) (BY.ext e9)
      have ho0 : ∀ k, some wb.heap.size = some k → w.heap.size ≤ k := fun k hk => by cases hk; omega
      have q := try_any gA c1 Y A n w1.heap.size (wb.heap.size + 1) w4.heap.size wr.heap.size (wr.heap.size + 1) w3.heap.size (some wb.heap.size) wc w w9 h48 H1a.out HAn.out (Lib.hid hY) eW9 (by omega) (by omega) ho0 hR9.lt
        (X.length + 1) 0 (castL X) [] [] C (.slice (some ⟨wr.heap.size + 1 + 1, 0, none⟩) 0 0) (.slice (some ⟨wb.heap.size, 0, none⟩) 0 0) w9 (by rw [castL_len]; omega) (by rw [castL_len]; simp; omega) (by omega) (Fr2.refl _ _ _ _) (Or.inl rfl) (Or.inl ⟨rfl, _, _, rfl⟩) (by simp) BO9 hO9 hR9 HC.out (by have := HBd.out; simp; omega)
      rw [castL_len, show ((0 : Nat) : Int) = 0 from rfl] at q
      have eF : ([] : List Nat) ++ (facF A (X.length + 1) 0 (castL X)).map (([] : List Nat).length + ·) = facF A (X.length + 1) 0 (castL X) := by simp
      rw [eF] at q
      obtain ⟨F, hF⟩ : ∃ F, F = facF A (X.length + 1) 0 (castL X) := ⟨_, rfl⟩
      rw [← hF] at q
      have HF := Lib.hid hF
      refine Calls.mono q ?_
      rintro e wz ⟨rfl, vF, hP⟩
      obtain ⟨hP1, hP2, -, hP4, -⟩ := hP
      obtain ⟨aoF, cF, rfl, -⟩ := hP2.shape
      have kF := hP1.cell (i := 0) (v := .slice aoF F.length cF) rfl
      have eWz := hP4.ext eW9 (by omega) (by omega) ho0
      clear q eF hF
      go_wp2_with fail
      exact bodyPost_ret (v := .tuple #[.slice aoF F.length cF, .bool true]) (by simp [results, Tryz.results73, go_sem]) rfl ⟨⟨_, rfl, by rw [← HF.out]; exact hP2⟩, eWz⟩
theorem FactorizationsOf_any (v u : Value) (l R : List Int) (w : World) (h : Ints w v l) (hu : Ints w u R) :
    Calls Tryz.prog 73 #[.agg #[v], u] w fun e w' => (∃ v', e = .returned (.tuple #[v', .bool (facB l R)]) ∧ OwnF w w' v' (facV l R)) ∧ Ext w w' := by
  cases hf : facB l R
  · rw [facV_no hf]; exact FactorizationsOf_no v u l R w h hu hf
  · have e : facV l R = facF (atS l) (R.length + 1) 0 R := by unfold facV; rw [hf]; rfl
    rw [e]; exact FactorizationsOf_yes v u l R w h hu hf
theorem LengthsOf_any (v u : Value) (l R : List Int) (w : World) (h : Ints w v l) (hu : Ints w u R) :
    Calls Tryz.prog 74 #[.agg #[v], u] w fun e w' => (∃ v', e = .returned v' ∧ Own 3 w w' v' (castL (lensL (facV l R)))) ∧ Ext w w' :=
  LengthsOf_by v u l R w h hu fun W h1 h2 => FactorizationsOf_any v u l R W h1 h2
end Go.Zz

/- The sum and the sums of the parts of a sequence: the program; how long the lists of a sequence's line are. -/
namespace Go.Zz
open Go.RowKit Go.Proofs
set_option maxHeartbeats 1000000
set_option maxRecDepth 8000

theorem ascq_len : ∀ (L : List Nat) (m n : Nat), L.Pairwise (· < ·) → (∀ x ∈ L, m ≤ x ∧ x ≤ n) → L.length ≤ n + 1 - m
  | [], _, _, _, _ => Nat.zero_le _
  | x :: L, m, n, h, hb => by
    rw [List.pairwise_cons] at h
    have h1 := hb x (by simp)
    have := ascq_len L (x + 1) n h.2 fun y hy => ⟨h.1 y hy, (hb y (by simp [hy])).2⟩
    rw [List.length_cons]; omega
theorem lensV_in (l R : List Int) : (∀ i, i < (castL (lensL (facV l R))).length → -9 ≤ nth (castL (lensL (facV l R))) i ∧ nth (castL (lensL (facV l R))) i < 1000000000000) ∧ (castL (lensL (facV l R))).length ≤ 40 := by
  have hb : ∀ x ∈ lensL (facV l R), 0 ≤ x ∧ x ≤ 10 := fun x hx => ⟨Nat.zero_le _, facV_vals x ((lens_mem _ x).1 hx)⟩
  constructor
  · intro i hi
    rw [castL_len] at hi
    rw [nth_castL]
    have := hb _ (nthN_mem hi)
    omega
  · rw [castL_len]
    have := ascq_len _ 0 10 (lens_asc (facV l R)) hb
    omega
theorem szR_in {l : List Int} {X : List Nat} (h12 : X.length ≤ 12) (hX : ∀ x ∈ X, x < 24) : (∀ i, i < (castL (szR l X)).length → -9 ≤ nth (castL (szR l X)) i ∧ nth (castL (szR l X)) i < 1000000000000) ∧ (castL (szR l X)).length ≤ 40 := by
  have key : (∀ x ∈ szR l X, x < 24) ∧ (szR l X).length ≤ 36 := by
    unfold szR szL'
    split
    · simp
    · have := partL_le X (szN l X)
      exact ⟨fun x hx => hX x (partL_mem hx), by omega⟩
  constructor
  · intro i hi
    rw [castL_len] at hi
    rw [nth_castL]
    have := key.1 _ (nthN_mem hi)
    omega
  · rw [castL_len]; omega
theorem jn_szq (s : ByteArray) (f : Nat → ByteArray) (hs : s.size ≤ 1) : ∀ k, (∀ i, i < k → (f i).size ≤ 27) → (jn s f k).size ≤ 28 * k
  | 0, _ => Nat.le_refl _
  | 1, h => by
    have := h 0 (by omega)
    rw [jn_first, ByteArray.size_append]
    have e : (⟨#[]⟩ : ByteArray).size = 0 := rfl
    omega
  | k + 2, h => by
    have ih := jn_szq s f hs (k + 1) fun i hi => h i (by omega)
    have := h (k + 1) (by omega)
    rw [jn_next s f (by omega), ByteArray.size_append, ByteArray.size_append]; omega
theorem fqF_szq (l xs : List Int) : (fqF l xs).size ≤ 400 := by
  cases hs : seqB l xs
  · rw [fqF_no hs]; decide
  · obtain ⟨X, rfl, -, hX12, -, hX⟩ := seqB_nat hs
    by_cases h0 : X.length = 0
    · rw [fqF_none hs (by rw [castL_len]; exact h0)]; decide
    · rw [fqF_yes hs h0]
      have hfl := fqL_len X X.length
      have := jn_szq sp1 (nthS (fqL X X.length)) (by decide) (fqL X X.length).length (fun i hi => fqL_size (X := X) (by omega) hX X.length (Nat.le_refl _) _ (nthS_mem hi))
      omega
theorem fsF_szq (l : List Int) (a : Int) : (fsF l a).size ≤ 560 := by
  cases h : isSetB l a
  · rw [fsF_no h]; decide
  · obtain ⟨n, rfl, -, hn, -⟩ := isSetB_nat h
    rw [fsF_nat h]
    exact numF9_size (fun i hi => by have := elems_in n i hi; omega) (by rw [castL_len]; have := elems_len n; omega)
theorem SumOfSequence_seq (v u : Value) (l : List Int) (X : List Nat) (w : World) (h : Ints w v l) (hu : Ints w u (castL X)) (hs : seqB l (castL X) = true) :
    Calls Tryz.prog 67 #[.agg #[v], u] w fun e w' => e = .returned (.int .i64 (tot l X : Nat)) ∧ Ext w w' := by
  obtain ⟨wb, hwb⟩ : ∃ wb, wb = w.alloc (.cells #[v] 27) := ⟨_, rfl⟩
  have hE0 := (Ext.refl w).alloc (.cells #[v] 27)
  have hb := box_cell w v 27
  rw [← hwb] at hE0 hb
  have hg : ∀ W, Ext wb W → Ints W v l := fun W hW => h.ext (hE0.trans hW)
  have hE := Ext.refl wb
  have Hsz : Hid (w.heap.size + 1 = wb.heap.size) := Lib.hid (by rw [hwb]; simp [go_sem])
  have Hwb := Lib.hid hwb
  clear hwb h
  obtain ⟨-, hgr, hX⟩ := seqB_natX hs
  have hu2 : ∀ W, Ext wb W → Ints W u (castL X) := fun W hW => hu.ext (hE0.trans hW)
  have cS := fun W (hW : Ext wb W) => IsSequence_val v u l (castL X) W (hg W hW) (hu2 W hW) hs
  have cT := fun W (hW : Ext wb W) => total_any v u l X W (hg W hW) (hu2 W hW) (Lib.hid hgr) (Lib.hid hX)
  have hbx := hb wb hE
  obtain ⟨n, hn⟩ : ∃ n, n = tot l X := ⟨_, rfl⟩
  simp only [← hn] at cT ⊢
  clear hX hgr hs hu hn
  go_enter Tryz.func67, Tryz.ntmps67
  go_wp2_with fail
  rw [← Hwb.out]
  go_wp2_with (first | (go_at_call 63; refine (cS _ hE).mono ?_; rintro e w1 ⟨rfl, hE1⟩; have hb1 := hb _ hE1) | (go_at_call 151; refine (cT _ hE1).mono ?_; rintro e w2 ⟨rfl, hE2⟩))
  go_ret
  exact ⟨rfl, hE0.trans (hE1.trans hE2)⟩
theorem SubsumsOf_seq (v u : Value) (l : List Int) (X : List Nat) (w : World) (h : Ints w v l) (hu : Ints w u (castL X)) (hs : seqB l (castL X) = true) :
    Calls Tryz.prog 69 #[.agg #[v], u] w fun e w' => e = .returned (.int .i64 (sbs l X : Nat)) ∧ Ext w w' := by
  obtain ⟨wb, hwb⟩ : ∃ wb, wb = w.alloc (.cells #[v] 27) := ⟨_, rfl⟩
  have hE0 := (Ext.refl w).alloc (.cells #[v] 27)
  have hb := box_cell w v 27
  rw [← hwb] at hE0 hb
  have hg : ∀ W, Ext wb W → Ints W v l := fun W hW => h.ext (hE0.trans hW)
  have hE := Ext.refl wb
  have Hsz : Hid (w.heap.size + 1 = wb.heap.size) := Lib.hid (by rw [hwb]; simp [go_sem])
  have Hwb := Lib.hid hwb
  clear hwb h
  obtain ⟨-, hgr, hX⟩ := seqB_natX hs
  have hu2 : ∀ W, Ext wb W → Ints W u (castL X) := fun W hW => hu.ext (hE0.trans hW)
  have cS := fun W (hW : Ext wb W) => IsSequence_val v u l (castL X) W (hg W hW) (hu2 W hW) hs
  have cT := fun W (hW : Ext wb W) => subsums_any v u l X W (hg W hW) (hu2 W hW) (Lib.hid hgr) (Lib.hid hX)
  have hbx := hb wb hE
  obtain ⟨n, hn⟩ : ∃ n, n = sbs l X := ⟨_, rfl⟩
  simp only [← hn] at cT ⊢
  clear hX hgr hs hu hn
  go_enter Tryz.func69, Tryz.ntmps69
  go_wp2_with fail
  rw [← Hwb.out]
  go_wp2_with (first | (go_at_call 63; refine (cS _ hE).mono ?_; rintro e w1 ⟨rfl, hE1⟩; have hb1 := hb _ hE1) | (go_at_call 154; refine (cT _ hE1).mono ?_; rintro e w2 ⟨rfl, hE2⟩))
  go_ret
  exact ⟨rfl, hE0.trans (hE1.trans hE2)⟩
end Go.Zz
