/- The library's sort at a row of rows of numbers, by the order of atoms. -/
import Derived.Test.YtdlbbpeahicakaaGreatGr15
import Derived.Test.YtdlbbpeahicakaaGreatLz
import Derived.Shelf.SlSortCmp.Whole1
import Derived.Test.YtdlbbpeahicakaaGreatGr17
import Derived.Test.YtdlbbpeahicakaaGreatGr14
import Derived.Test.YtdlbbpeahicakaaGreatGr18
namespace Go.Zz
open Go.RowKit Go.Proofs
set_option maxHeartbeats 2000000
set_option maxRecDepth 8000

section
variable {α : Type} [Inhabited α] {enc : α → Value}
theorem grownBy_sortW {w : World} {g off n : Nat} {os : Array Obj} (d : Array α) : w.grownBy (sortWorld enc w g off n d os) (some g) := by
  unfold sortWorld
  refine ⟨rfl, rfl, rfl, by simp, fun k hk hne => ?_⟩
  rw [Sort.heap_grow_old _ _ (by simpa using hk)]
  have : g ≠ k := fun e => hne (by rw [e])
  simp [Sort.putRow, Sort.mapBlock, Sort.ahead, Array.getElem?_modify, this]
theorem heap_sortW {w : World} {g n : Nat} {os : Array Obj} {cur : Array Value} {e : TypeId} {fr : Nat × Nat} (d : Array α) (hb : w.heap[g]? = some (.cells cur e fr)) :
    (sortWorld enc w g 0 n d os).heap[g]? = some (.cells (Sort.putCells enc 0 d cur) e fr) := by
  have hg : g < w.heap.size := (Array.getElem?_eq_some_iff.1 hb).1
  unfold sortWorld
  rw [Sort.heap_grow_old _ _ (by simpa using hg)]
  simp [Sort.putRow, Sort.mapBlock, Sort.ahead, Array.getElem?_modify, hb, Sort.onCells]
theorem take_putW (cur : Array Value) (d : Array α) (h : d.size ≤ cur.size) : (Sort.putCells enc 0 d cur).toList.take d.size = d.toList.map enc := by
  apply List.ext_getElem?
  intro j
  by_cases hj : j < d.size
  · rw [List.getElem?_take_of_lt hj, Array.getElem?_toList]
    simp [Sort.putCells, hj, show j < cur.size by omega]
  · rw [List.getElem?_take_eq_none (by omega), List.getElem?_eq_none (by simp; omega)]
end
/-- a row with what it reads as -/
def SEl (w : World) : Type := { p : Value × List Nat // RowB w p.1 p.2 }
def SEl.hd {w : World} (x : SEl w) : Value := x.1.1
def SEl.ct {w : World} (x : SEl w) : List Nat := x.1.2
def SEl.cf {w : World} (x y : SEl w) : Int := cmpA x.ct y.ct
theorem SEl.rb {w : World} (x : SEl w) : RowB w x.hd x.ct := x.2
theorem sel_list {w : World} : ∀ (L : List Value) (A : List (List Nat)), RowsB w L A → ∃ D : List (SEl w), D.map SEl.hd = L ∧ D.map SEl.ct = A
  | [], [], _ => ⟨[], rfl, rfl⟩
  | [], a :: A, h => by have := h.1; simp at this
  | u :: L, [], h => by have := h.1; simp at this
  | u :: L, a :: A, h => by
      have h0 := h.2 0 (by simp)
      have hl := h.1
      obtain ⟨D, h1, h2⟩ := sel_list L A ⟨by simpa using hl, fun i hi => by have := h.2 (i + 1) (by simp; omega); simpa using this⟩
      exact ⟨(⟨(u, a), by simpa using h0⟩ : SEl w) :: D, congrArg (u :: ·) h1, congrArg (a :: ·) h2⟩
theorem sel_swo (w : World) : Sort.SWO (ltOf (SEl.cf (w := w))) where
  irrefl x := by unfold ltOf SEl.cf; rw [cmpA_self]; rfl
  trans x y z h1 h2 := by
    unfold ltOf SEl.cf at *
    rw [decide_eq_true_iff] at *
    have h3 := cmpA_trans (a := x.ct) (b := y.ct) (c := z.ct) (by omega) (by omega)
    by_cases e : cmpA x.ct z.ct = 0
    · have e2 := cmpA_eq e
      rw [← e2, cmpA_flip] at h2
      omega
    · omega
  ntrans x y z h1 h2 := by
    unfold ltOf SEl.cf at *
    rw [decide_eq_false_iff_not] at *
    rw [cmpA_flip] at h1 h2 ⊢
    have h3 := cmpA_trans (a := z.ct) (b := y.ct) (c := x.ct) (by omega) (by omega)
    omega
theorem sortA_any (w0 w : World) (v : Value) (A : List (List Nat)) (hO : OwnC w0 w v A) (hA : 0 < A.length) :
    Calls Tryz.prog 198 #[v, .func (.func 199) #[] #[]] w fun e w' => e = .returned (.tuple #[]) ∧ OwnC w0 w' v (isA A) ∧ w.grownBy w' v.ownBlock := by
  obtain ⟨L, hOL, hR⟩ := hO.rows
  have hlen := hR.1
  have hO1 := hOL.2.1
  rcases hO1.2 with ⟨-, hl⟩ | ⟨g, cap, cur, rfl, hg, hh, hnc, hcm, hcs, htk⟩
  · omega
  · obtain ⟨D, hD1, hD2⟩ := sel_list L A hR
    have hDl : D.length = L.length := by rw [← hD1, List.length_map]
    have hDA : D.length = A.length := by rw [← hD2, List.length_map]
    haveI : Inhabited (SEl w) := ⟨D[0]'(by omega)⟩
    have hH : Sort.Holds SEl.hd w g 0 D.toArray := by
      intro j hj
      have hj' : j < D.length := by simpa using hj
      refine ⟨?_, by simp [World.frozen?, hh]⟩
      have h1 : (cur.toList.take (L.length * 1))[j]? = L[j]? := by rw [htk]
      rw [List.getElem?_take_of_lt (by omega)] at h1
      simp only [World.cell?, hh, Nat.zero_add]
      simp only [Option.isSome_none, Bool.false_eq_true, if_false]
      rw [← Array.getElem?_toList, h1, ← hD1]
      simp [hj']
    have hgb : ∀ (m : Nat) (os : Array Obj) (dk : Array (SEl w)), w.grownBy (sortWorld SEl.hd w g 0 m dk os) (Value.ownBlock (.slice (some ⟨g, 0, none⟩) L.length cap)) := fun m os dk => grownBy_sortW dk
    have hrow : ∀ (m : Nat) (os : Array Obj) (dk : Array (SEl w)) (x : SEl w), RowB (sortWorld SEl.hd w g 0 m dk os) x.hd x.ct := fun m os dk x => x.rb.grown hOL (by decide) (hgb m os dk)
    have hcmp : CmpLays1 Tryz.prog 199 #[] SEl.hd (SEl.cf (w := w)) g 0 D.toArray.size w := by
      intro m os dk hs x y
      rw [Array.append_empty]
      refine (cmpAtoms_eq x.hd y.hd x.ct y.ct _ (hrow m os dk x).ints (hrow m os dk y).ints).mono ?_
      rintro e w' ⟨rfl, rfl⟩
      exact ⟨rfl, 0, #[], by rw [Sort.grow_empty]; rfl⟩
    have eg : ∀ args w, (callFunc 199 args).run Tryz.prog w = .ok (.enter 199 args) w := enters_of Tryz.func199 (by kernel_rfl) rfl
    have hcon := Any.slices_SortFunc Tryz.laysSortF SEl.hd (fun x => x.rb.one) SEl.cf (sel_swo w) 199 #[] g 0 cap D.toArray w eg hcmp hH (Array.getElem?_eq_some_iff.1 hh).1 (by have := hOL.2.2; simp; omega)
    rw [show D.toArray.size = L.length by simpa using hDl] at hcon
    change Calls Tryz.prog 198 _ _ _ at hcon
    refine hcon.mono ?_
    rintro e w' ⟨rfl, d', n, os, ⟨hp1, -, hp2⟩, hs, rfl⟩
    have hd' : d'.size = L.length := by rw [hp1]; simpa using hDl
    have hperm : d'.toList.Perm D := by
      have e1 : (d'.extract 0 L.length).toList = d'.toList := by rw [← hd', Array.extract_size]
      have e2 : (D.toArray.extract 0 L.length).toList = D := by rw [← hDl, ← List.size_toArray, Array.extract_size]
      rw [e1, e2] at hp2; exact hp2
    have hctp : (d'.toList.map SEl.ct).Perm A := by rw [← hD2]; exact hperm.map _
    have hpw : (d'.toList.map SEl.ct).Pairwise leA := by
      rw [List.pairwise_iff_getElem]
      intro i j hi hj hij
      rw [List.length_map, Array.length_toList] at hi hj
      have := hs i j (Nat.zero_le _) hij (by omega)
      unfold ltOf SEl.cf at this
      rw [decide_eq_false_iff_not, getElem!_pos d' i hi, getElem!_pos d' j hj] at this
      rw [List.getElem_map, List.getElem_map, Array.getElem_toList, Array.getElem_toList]
      unfold leA
      rw [cmpA_flip]
      omega
    have hS := sort_unique hctp hpw
    refine ⟨rfl, ownC_of (L := d'.toList.map SEl.hd) ⟨?_, ?_, by simpa [hd'] using hOL.2.2⟩ ?_, hgb n os d'⟩
    · intro u hu
      obtain ⟨x, -, rfl⟩ := List.mem_map.1 hu
      exact x.rb.one
    · have hll : (d'.toList.map (SEl.hd (w := w))).length = L.length := by simpa using hd'
      rw [hll]
      refine ⟨by rw [hll]; omega, Or.inr ⟨g, cap, _, rfl, hg, heap_sortW d' hh, hnc, hcm, by simp [Sort.putCells, hcs], ?_⟩⟩
      rw [Nat.mul_one, ← hd']
      exact take_putW cur d' (by omega)
    · rw [← hS]
      refine ⟨by simp, fun i hi => ?_⟩
      rw [List.length_map, Array.length_toList] at hi
      have := hrow n os d' d'[i]
      simpa [List.getD, hi] using this
end Go.Zz

/- All atoms in their order: the program. -/
namespace Go.Zz
open Go.RowKit Go.Proofs
set_option maxHeartbeats 4000000
set_option maxRecDepth 8000

theorem AtomsOf_no (v : Value) (l : List Int) (w : World) (h : Ints w v l) (hn : atB l = false) :
    Calls Tryz.prog 156 #[.agg #[v]] w fun e w' => ∃ ao, e = .returned (.tuple #[.slice ao 0 0, .bool false]) ∧ Ext w w' := by
  obtain ⟨wb, hwb⟩ : ∃ wb, wb = w.alloc (.cells #[v] 27) := ⟨_, rfl⟩
  have hE0 := (Ext.refl w).alloc (.cells #[v] 27)
  have hb := box_cell w v 27
  rw [← hwb] at hE0 hb
  have hg : ∀ W, Ext wb W → Ints W v l := fun W hW => h.ext (hE0.trans hW)
  have hE := Ext.refl wb
  have Hsz : Hid (w.heap.size + 1 = wb.heap.size) := Lib.hid (by rw [hwb]; simp [go_sem])
  have Hwb := Lib.hid hwb
  clear hwb h
  have cG := fun W (hW : Ext wb W) => IsGroup_any v l W (hg W hW)
  have hE1 := (hE.alloc (.cells #[] 22)).alloc (.cells #[.slice (some ⟨wb.heap.size, 0, none⟩) 0 0] 107)
  have hb1 := hb _ hE1
  have kO : ((wb.alloc (.cells #[] 22)).alloc (.cells #[.slice (some ⟨wb.heap.size, 0, none⟩) 0 0] 107)).cell? ⟨(wb.alloc (.cells #[] 22)).heap.size, 0, none⟩ = some (.slice (some ⟨wb.heap.size, 0, none⟩) 0 0) := (Blk.new _ _ _).cell (i := 0) rfl
  have hs1 : (wb.alloc (.cells #[] 22)).heap.size = wb.heap.size + 1 := by simp
  rw [hs1] at kO
  clear hs1
  obtain ⟨wc, hwc⟩ : ∃ wc, wc = (wb.alloc (.cells #[] 22)).alloc (.cells #[.slice (some ⟨wb.heap.size, 0, none⟩) 0 0] 107) := ⟨_, rfl⟩
  rw [← hwc] at hE1 hb1 kO
  have Hwc := Lib.hid hwc
  clear hwc
  have kO2 := fun W (hW : Ext wc W) => hW.cell kO
  cases hgr : isGrp l
  · rw [hgr] at cG
    go_enter Tryz.func156, Tryz.ntmps156
    go_wp2_with fail
    rw [← Hwb.out]; rw [Hsz.out]; rw [← Hwc.out]
    go_wp2_with (go_at_call 131; refine (cG _ hE1).mono ?_; rintro e w1 ⟨rfl, hE2⟩; have hb2 := hb _ (hE1.trans hE2); have kO3 := kO2 _ hE2)
    exact bodyPost_ret (v := .tuple #[.slice (some ⟨wb.heap.size, 0, none⟩) 0 0, .bool false]) (by simp [results, Tryz.results156, go_sem]) rfl ⟨_, rfl, hE0.trans (hE1.trans hE2)⟩
  · rw [hgr] at cG
    have Hgr := Lib.hid hgr
    have h9 : ¬ (ord l ≤ 7) := by
      intro h9; unfold atB at hn; rw [hgr, decide_eq_true h9] at hn; cases hn
    have h9I : (7 : Int) < (ord l : Int) := by omega
    have cO := fun W (hW : Ext wb W) => OrderOf_grp v l W (hg W hW) Hgr
    clear hgr hn
    go_enter Tryz.func156, Tryz.ntmps156
    go_wp2_with fail
    rw [← Hwb.out]; rw [Hsz.out]; rw [← Hwc.out]
    go_wp2_with (first | (go_at_call 131; refine (cG _ hE1).mono ?_; rintro e w1 ⟨rfl, hE2⟩; have hE12 := hE1.trans hE2; have hb2 := hb _ hE12) | (go_at_call 157; refine (cO _ hE12).mono ?_; rintro e w3 ⟨rfl, hE3⟩; have kO3 := kO2 _ (hE2.trans hE3)))
    exact bodyPost_ret (v := .tuple #[.slice (some ⟨wb.heap.size, 0, none⟩) 0 0, .bool false]) (by simp [results, Tryz.results156, go_sem]) rfl ⟨_, rfl, hE0.trans (hE12.trans hE3)⟩
theorem AtomsOf_yes (v : Value) (l : List Int) (w : World) (h : Ints w v l) (hn : atB l = true) :
    Calls Tryz.prog 156 #[.agg #[v]] w fun e w' => ∃ v', e = .returned (.tuple #[v', .bool true]) ∧ OwnC w w' v' (atS l) ∧ Ext w w' := by
  obtain ⟨wb, hwb⟩ : ∃ wb, wb = w.alloc (.cells #[v] 27) := ⟨_, rfl⟩
  have hE0 := (Ext.refl w).alloc (.cells #[v] 27)
  have hb := box_cell w v 27
  rw [← hwb] at hE0 hb
  have hg : ∀ W, Ext wb W → Ints W v l := fun W hW => h.ext (hE0.trans hW)
  have hE := Ext.refl wb
  have Hsz : Hid (w.heap.size + 1 = wb.heap.size) := Lib.hid (by rw [hwb]; simp [go_sem])
  have Hwb := Lib.hid hwb
  clear hwb h
  obtain ⟨hgr, h7⟩ : isGrp l = true ∧ ord l ≤ 7 := by unfold atB at hn; simpa using hn
  have Hgr := Lib.hid hgr
  have cG := fun W (hW : Ext wb W) => IsGroup_any _ l W (hg W hW)
  rw [hgr] at cG
  have cO := fun W (hW : Ext wb W) => OrderOf_grp _ l W (hg W hW) Hgr
  have h7I : ¬ (7 : Int) < (ord l : Int) := by omega
  have Hle := Lib.hid (atL_le hgr h7)
  have Hpos : Hid (0 < (atL l).length) := Lib.hid (by rw [← atS_len]; exact (hdA_of (head_chk hgr h7)).one)
  clear hgr hn
  have hO0 : OwnC wb (wb.alloc (.cells #[] 22)) (.slice (some ⟨wb.heap.size, 0, none⟩) 0 0) [] := ownC_made hE
  have hE1 := (hE.alloc (.cells #[] 22)).alloc (.cells #[.slice (some ⟨wb.heap.size, 0, none⟩) 0 0] 107)
  have hb1 := hb _ hE1
  have hs1 : (wb.alloc (.cells #[] 22)).heap.size = wb.heap.size + 1 := by simp
  have B1 : Blk ((wb.alloc (.cells #[] 22)).alloc (.cells #[.slice (some ⟨wb.heap.size, 0, none⟩) 0 0] 107)) (wb.heap.size + 1) 107 #[.slice (some ⟨wb.heap.size, 0, none⟩) 0 0] := by rw [← hs1]; exact Blk.new _ _ _
  have hO1 := hO0.ext ((Ext.refl _).alloc (.cells #[.slice (some ⟨wb.heap.size, 0, none⟩) 0 0] 107))
  obtain ⟨wc, hwc⟩ : ∃ wc, wc = (wb.alloc (.cells #[] 22)).alloc (.cells #[.slice (some ⟨wb.heap.size, 0, none⟩) 0 0] 107) := ⟨_, rfl⟩
  rw [← hwc] at hE1 hb1 B1 hO1
  have Hwc := Lib.hid hwc
  clear hwc hO0 hs1
  have hmf : ∀ (fn : Fn) (first cap : Array Value) (w : World), (Instr.makeFunc fn first cap).run Tryz.prog w = .ok (.func fn first cap) w := fun _ _ _ _ => rfl
  have cZ := zfAt_any v l Hgr h7 wb w.heap.size (wb.heap.size + 1) hb (Lib.hid (fun W hW => hg W hW)) (by omega) (ord l + 1) [] 0 []
  go_enter Tryz.func156, Tryz.ntmps156
  go_wp2_with fail
  rw [← Hwb.out]; rw [Hsz.out]; rw [← Hwc.out]
  go_wp2_with (first | (go_at_call 131; refine (cG _ hE1).mono ?_; rintro e w1 ⟨rfl, hE2⟩; have hE12 := hE1.trans hE2; have hb2 := hb _ hE12) | (go_at_call 157; refine (cO _ hE12).mono ?_; rintro e w3 ⟨rfl, hE3⟩; have hE13 := hE12.trans hE3; have hb3 := hb _ hE13))
  have eX := hE13.trans ((Ext.refl w3).alloc (.cells #[] 3))
  have eC := (hE2.trans hE3).trans ((Ext.refl w3).alloc (.cells #[] 3))
  have hlt1 := B1.lt
  refine Calls.mono (cZ _ _ _ eX (Or.inl ⟨rfl, _, _, rfl⟩) (B1.ext eC) (hO1.ext eC) (Nat.pow_pos (by omega)) (by simp) (by omega) (by simp) (by simp) (by rfl) (fun hh => absurd rfl hh) (by have := Hle.out; unfold atL at this; simpa [lstN] using this)) ?_
  rintro e w5 ⟨rfl, vo, hP⟩
  have hP1 := hP.1
  have hP2 : OwnC wb w5 vo (atL l) := by have := hP.2.1; unfold atL; simpa [lstN] using this
  have hE5 : Ext wb w5 := hP.2.2.1.ext eX (by omega) (fun g hg => by have := (hO1.blk g hg).1; omega)
  have hvne := hP2.not hP1 (by decide)
  obtain ⟨A, hA⟩ : ∃ A, A = atL l := ⟨_, rfl⟩
  have HA := Lib.hid hA
  have hpos : 0 < A.length := by rw [hA]; exact Hpos.out
  rw [← hA] at hP2
  have cS := sortA_any wb w5 vo A hP2 hpos
  have k5 := hP1.cell (i := 0) (v := vo) rfl
  clear cZ hA hpos hP
  go_wp2_with (go_at_call 198; refine cS.mono ?_; rintro e w6 ⟨rfl, hO6, hg6⟩; have k6 := (hP1.grown hg6 (fun k hk e => hvne (by rw [hk, e]))).cell (i := 0) (v := vo) rfl)
  have hE6 := hE5.grown hg6 (fun k hk => (hP2.blk k hk).1)
  exact bodyPost_ret (v := .tuple #[vo, .bool true]) (by simp [results, Tryz.results156, go_sem]) rfl ⟨_, rfl, by unfold atS; rw [← HA.out]; exact hO6.mono hE0, hE0.trans hE6⟩
end Go.Zz

/- Factorizations: the program's closure that takes the terms of an atom. -/
namespace Go.Zz
open Go.RowKit Go.Proofs
set_option maxHeartbeats 1000000
set_option maxRecDepth 8000

theorem grow_setI (w : World) (b i : Nat) (v : Value) : w.grownBy (w.setCell ⟨b, i, none⟩ v) (some b) :=
  ⟨rfl, rfl, rfl, by simp, fun k hk hne => Below.heap_setCell _ _ _ _ (fun e => hne (by rw [e]))⟩
def RowI (w : World) (g : Nat) (C : List Int) : Prop := Blk w g 3 (C.map (Value.int .i64)).toArray
theorem RowI.cell {w : World} {g : Nat} {C : List Int} (h : RowI w g C) {i : Nat} (hi : i < C.length) : w.cell? ⟨g, i, none⟩ = some (.int .i64 (nth C i)) := Blk.cell (i := i) h (by simp [nth, List.getD, hi])
theorem RowI.fr {w : World} {g : Nat} {C : List Int} (h : RowI w g C) (i : Nat) : w.frozen? ⟨g, i, none⟩ = false := by
  have h' : w.heap[g]? = some (.cells (C.map (Value.int .i64)).toArray 3 (0, 0)) := h
  simp [World.frozen?, h']
theorem RowI.set {w : World} {g : Nat} {C : List Int} (h : RowI w g C) (i : Nat) (x : Int) : RowI (w.setCell ⟨g, i, none⟩ (.int .i64 x)) g (C.set i x) := by
  have := Blk.set h i (.int .i64 x)
  unfold RowI
  have e : ((C.set i x).map (Value.int .i64)).toArray = (C.map (Value.int .i64)).toArray.setIfInBounds i (.int .i64 x) := by
    rw [List.map_set]; simp
  rw [e]; exact this
theorem RowI.ext {w w' : World} {g : Nat} {C : List Int} (h : RowI w g C) (hE : Ext w w') : RowI w' g C := Blk.ext h hE
theorem tkB_snoc (C : List Int) (k : Int) (a : List Nat) {j : Nat} (hj : j < a.length) : tkB C k (a.take (j + 1)) = (tkB C k (a.take j) && decide (0 ≤ nth (tkS C k (a.take (j + 1))) (nthN a j))) := by
  unfold tkB
  rw [List.length_take, List.length_take, show min (j + 1) a.length = j + 1 by omega, show min j a.length = j by omega, List.range_succ, List.all_append]
  congr 1
  · rw [Bool.eq_iff_iff, List.all_eq_true, List.all_eq_true]
    have e : ∀ i, i < j → (a.take (j + 1)).take (i + 1) = (a.take j).take (i + 1) ∧ nthN (a.take (j + 1)) i = nthN (a.take j) i := fun i hi => by
      refine ⟨by rw [List.take_take, List.take_take]; congr 1; omega, ?_⟩
      simp [nthN, List.getD, List.getElem?_take_of_lt (show i < j + 1 by omega), List.getElem?_take_of_lt hi]
    constructor
    · intro h i hi
      have hi' := List.mem_range.1 hi
      have := h i hi
      rw [(e i hi').1, (e i hi').2] at this; exact this
    · intro h i hi
      have hi' := List.mem_range.1 hi
      have := h i hi
      rw [(e i hi').1, (e i hi').2]; exact this
  · rw [List.all_cons, List.all_nil, Bool.and_true]
    have : nthN (a.take (j + 1)) j = nthN a j := by simp [nthN, List.getD, List.getElem?_take_of_lt (show j < j + 1 by omega)]
    rw [this, List.take_take, Nat.min_self]
theorem take_any (u : Value) (a : List Nat) (C : List Int) (k : Int) (gL bL n : Nat) (w : World) (hI : ∀ W, w.grownBy W (some gL) → Ints W u (castL a)) (hk : k = 1 ∨ k = -1) (ha : ∀ x ∈ a, x < n) (hal : a.length ≤ 50) (hn : C.length = n) (hC : ∀ y, -100 ≤ nth C y ∧ nth C y ≤ 100)
    (hL : RowI w gL C) (hB : Blk w bL 22 #[.slice (some ⟨gL, 0, none⟩) n n]) (hne : gL ≠ bL) :
    Calls Tryz.prog 158 #[u, .int .i64 k, .pointer (some ⟨bL, 0, none⟩)] w fun e w' => e = .returned (.bool (tkB C k a)) ∧ RowI w' gL (tkS C k a) ∧ w.grownBy w' (some gL) := by
  obtain ⟨ao, c, adr, rfl, hadr, hcell0⟩ := (hI w (grown_refl w _)).nats
  have hixU := ints_index (c := c) elI szI hadr
  have hcellU : Hid (∀ W, w.grownBy W (some gL) → ∀ i, i < a.length → W.cell? (adr i) = some (.int .i64 (nthN a i))) := Lib.hid (fun W hW i hi => by
    obtain ⟨ao', c', adr', hv, hadr', hcell'⟩ := (hI W hW).nats
    simp only [Value.slice.injEq] at hv
    obtain ⟨rfl, -, rfl⟩ := hv
    have h1 := hcell' i W hi (Ext.refl _)
    have e : adr i = adr' i := by
      have p1 := hixU i W hi
      have p2 := ints_index (c := c) elI szI hadr' i W hi
      rw [p1] at p2
      simpa using p2
    rw [e]; exact h1)
  have hixL := dv_index gL n n
  have HB := Lib.hid hB
  have Hn := Lib.hid hn
  have Hbnd : Hid (∀ j x, x < n → j ≤ a.length → -200 ≤ nth (tkS C k (a.take j)) x ∧ nth (tkS C k (a.take j)) x ≤ 200) := Lib.hid (fun j x hx hj => by
    rw [tkS_nth C k (a.take j) (fun y hy => by rw [hn]; exact ha y (List.mem_of_mem_take hy))]
    have h1 := hC x
    have h2 : (a.take j).count x ≤ 50 := Nat.le_trans List.count_le_length (by rw [List.length_take]; omega)
    rcases hk with rfl | rfl <;> omega)
  have Hk := Lib.hid hk
  have hkb : -1 ≤ k ∧ k ≤ 1 := by rcases hk with rfl | rfl <;> omega
  clear hadr hcell0 hI hn hC hk hB
  go_enter Tryz.func158, Tryz.ntmps158
  go_wp2_with fail
  go_loopw [6, 11] (fun bv xv wr => ∃ j : Nat, j ≤ a.length ∧ xv = .int .i64 j ∧ bv = .bool (tkB C k (a.take j)) ∧ RowI wr gL (tkS C k (a.take j)) ∧ w.grownBy wr (some gL)) (fun _ xv _ => a.length - (RowKit.intOf xv).toNat)
  case atStart => exact ⟨0, by omega, rfl, rfl, hL, grown_refl w _⟩
  case round =>
    clear hL
    obtain ⟨j, hj, rfl, rfl, hR, hG⟩ := hrel
    by_cases hlt : j < a.length
    · have hltI : (j : Int) < (a.length : Int) := by omega
      have hcu := hcellU.out wr hG j hlt
      have hbx := (HB.out.grown hG (fun g hg e => hne (by cases hg; exact e))).cell (i := 0) (v := .slice (some ⟨gL, 0, none⟩) n n) rfl
      have hx : nthN a j < n := ha _ (nthN_mem hlt)
      have hlen : (tkS C k (a.take j)).length = n := by rw [tkS_len]; exact Hn.out
      have hcx := hR.cell (i := nthN a j) (by omega)
      have hbd := Hbnd.out j _ hx hj
      have Hstep : Hid (tkS C k (a.take (j + 1)) = (tkS C k (a.take j)).set (nthN a j) (nth (tkS C k (a.take j)) (nthN a j) - k)) := Lib.hid (by
        have e : a.take (j + 1) = a.take j ++ [nthN a j] := by rw [List.take_succ_eq_append_getElem hlt]; simp [nthN, List.getD, hlt]
        rw [e, tkS_snoc])
      obtain ⟨x, hxd⟩ : ∃ x, x = nthN a j := ⟨_, rfl⟩
      have Hsn := Lib.hid (tkB_snoc C k a hlt)
      rw [← hxd] at hcu hx hcx hbd Hstep Hsn
      obtain ⟨D, hD⟩ : ∃ D, D = tkS C k (a.take j) := ⟨_, rfl⟩
      rw [← hD] at hR hlen hcx hbd Hstep
      obtain ⟨b, hb⟩ : ∃ b, b = tkB C k (a.take j) := ⟨_, rfl⟩
      rw [← hb] at Hsn ⊢
      obtain ⟨y, hy⟩ : ∃ y, y = nth D x := ⟨_, rfl⟩
      rw [← hy] at hcx hbd Hstep
      clear hxd hD hb hy
      have HR := Lib.hid hR
      have hfr := hR.fr x
      have HG := Lib.hid hG
      have Hlen := Lib.hid hlen
      have hwk : IntKind.i64.wrap (y - k) = y - k := IntWalk.i64_in _ (by omega)
      have Hsn2 : Hid (tkB C k (a.take (j + 1)) = (b && decide (0 ≤ y - k))) := Lib.hid (by rw [Hsn.out, Hstep.out, nth_setI (by omega), if_pos rfl])
      have hbxs : ∀ v, (wr.setCell ⟨gL, x, none⟩ v).drew.cell? ⟨bL, 0, none⟩ = some (.slice (some ⟨gL, 0, none⟩) n n) := fun v => by
        show (wr.setCell ⟨gL, x, none⟩ v).cell? ⟨bL, 0, none⟩ = _
        rw [World.cell?_setCell_other _ _ _ _ (by intro e; cases e; exact hne rfl)]; exact hbx
      have hcs : (wr.setCell ⟨gL, x, none⟩ (.int .i64 (y - k))).drew.cell? ⟨gL, x, none⟩ = some (.int .i64 (y - k)) := World.cell?_setCell_same _ _ _ hcx
      have hRf : RowI (wr.setCell ⟨gL, x, none⟩ (.int .i64 (y - k))).drew gL (tkS C k (a.take (j + 1))) := by rw [Hstep.out]; exact (HR.out.set x (y - k)).ext ((Ext.refl _).drew)
      have hGf : w.grownBy (wr.setCell ⟨gL, x, none⟩ (.int .i64 (y - k))).drew (some gL) := grown_ext (grown_trans HG.out (Nw.refl _ _) (grow_setI wr gL x _)) ((Ext.refl _).drew)
      have HRf := Lib.hid hRf
      have HGf := Lib.hid hGf
      have hbxd : wr.drew.cell? ⟨bL, 0, none⟩ = some (.slice (some ⟨gL, 0, none⟩) n n) := hbx
      have hcxd : wr.drew.cell? ⟨gL, x, none⟩ = some (.int .i64 y) := hcx
      have hfrd : wr.drew.frozen? ⟨gL, x, none⟩ = false := hfr
      clear hR hG hlen hRf hGf
      cases b
      all_goals
        go_wp2_with fail
        refine wp_region_held_drew (S := (fun _ => True)) (by kernel_rfl) (by trivial) (fun hHeld => ?_)
        (refine takeOn (i := 1) (v := ?_) (by kernel_rfl) (by rfl) (by rfl) (by kernel_rfl) (by kernel_rfl) (by intro _ _ _ h; exact h) ?_ (by assumption) ?_); (rotate_left 1); (focus ((intro w hSw); (try dsimp only at hSw); go_simp; (try with_reducible rfl))); (try simp only [Act.put, List.setIfInBounds_toArray, List.set_cons_zero, List.set_cons_succ, List.getElem_toArray, List.getElem_cons_zero, List.getElem_cons_succ])
        (refine takeOn (i := 3) (v := ?_) (by kernel_rfl) (by rfl) (by rfl) (by kernel_rfl) (by kernel_rfl) (by intro _ _ _ h; exact h) ?_ (by assumption) ?_); (rotate_left 1); (focus ((intro w hSw); (try dsimp only at hSw); go_simp; (try with_reducible rfl))); (try simp only [Act.put, List.setIfInBounds_toArray, List.set_cons_zero, List.set_cons_succ, List.getElem_toArray, List.getElem_cons_zero, List.getElem_cons_succ])
        (refine takeOn (i := 6) (v := ?_) (by kernel_rfl) (by rfl) (by rfl) (by kernel_rfl) (by kernel_rfl) (by intro _ _ _ h; exact h) ?_ (by assumption) ?_); (rotate_left 1); (focus ((intro w hSw); (try dsimp only at hSw); go_simp; (try with_reducible rfl))); (try simp only [Act.put, List.setIfInBounds_toArray, List.set_cons_zero, List.set_cons_succ, List.getElem_toArray, List.getElem_cons_zero, List.getElem_cons_succ])
        refine wpAnyH_ready (rs := [0, 2]) (by kernel_rfl) (by simp) ?_
        refine AllReadyH.cons (i := 0) (by rfl) (fun K hK => ?_) (AllReadyH.cons (i := 2) (by rfl) (fun K hK => ?_) (AllReadyH.nil))
        · rw [if_pos (by rfl)]
          go_simp
          refine hK.out _ _ (by trivial) (fun hHeld => ?_)
          clear hK K
          (try simp only [Act.put, List.setIfInBounds_toArray, List.set_cons_zero, List.set_cons_succ, List.getElem_toArray, List.getElem_cons_zero, List.getElem_cons_succ])
          refine takeOne (i := 2) (by kernel_rfl) (by rfl) (by rfl) (fun K hK => ?_)
          go_simp
          refine hK.out _ _ (by trivial) (fun hHeld => ?_)
          clear hK K
          (try simp only [Act.put, List.setIfInBounds_toArray, List.set_cons_zero, List.set_cons_succ, List.getElem_toArray, List.getElem_cons_zero, List.getElem_cons_succ])
          (refine takeOn (i := 4) (v := ?_) (by kernel_rfl) (by rfl) (by rfl) (by kernel_rfl) (by kernel_rfl) (by intro _ _ _ h; exact h) ?_ (by assumption) ?_); (rotate_left 1); (focus ((intro w hSw); (try dsimp only at hSw); go_simp; (try with_reducible rfl))); (try simp only [Act.put, List.setIfInBounds_toArray, List.set_cons_zero, List.set_cons_succ, List.getElem_toArray, List.getElem_cons_zero, List.getElem_cons_succ])
          refine takeOne (i := 5) (by kernel_rfl) (by rfl) (by rfl) (fun K hK => ?_)
          go_simp
          refine hK.out _ _ (by trivial) (fun hHeld => ?_)
          clear hK K
          (try simp only [Act.put, List.setIfInBounds_toArray, List.set_cons_zero, List.set_cons_succ, List.getElem_toArray, List.getElem_cons_zero, List.getElem_cons_succ])
          (refine takeOn (i := 7) (v := ?_) (by kernel_rfl) (by rfl) (by rfl) (by kernel_rfl) (by kernel_rfl) (by intro _ _ _ h; exact h) ?_ (by assumption) ?_); (rotate_left 1); (focus ((intro w hSw); (try dsimp only at hSw); go_simp; (first | done | with_reducible rfl | (rw [if_neg]; (try simp only [ByteArray.size_append, ByteArray.size_mk, List.size_toArray, List.length_cons, List.length_nil]); omega) | trace_state))); (try simp only [Act.put, List.setIfInBounds_toArray, List.set_cons_zero, List.set_cons_succ, List.getElem_toArray, List.getElem_cons_zero, List.getElem_cons_succ])
          (refine takeOn (i := 8) (v := ?_) (by kernel_rfl) (by rfl) (by rfl) (by kernel_rfl) (by kernel_rfl) (by intro _ _ _ h; exact h) ?_ (by assumption) ?_); (rotate_left 1); (focus ((intro w hSw); (try dsimp only at hSw); go_simp; (try with_reducible rfl))); (try simp only [Act.put, List.setIfInBounds_toArray, List.set_cons_zero, List.set_cons_succ, List.getElem_toArray, List.getElem_cons_zero, List.getElem_cons_succ])
          refine takeOne (i := 9) (by kernel_rfl) (by rfl) (by rfl) (fun K hK => ?_)
          go_simp
          refine hK.out _ _ (by trivial) (fun hHeld => ?_)
          clear hK K
          (try simp only [Act.put, List.setIfInBounds_toArray, List.set_cons_zero, List.set_cons_succ, List.getElem_toArray, List.getElem_cons_zero, List.getElem_cons_succ])
          refine wpAnyH_done (by kernel_rfl) ?_ _
          go_wp2_with fail
          go_roundw
          case rel => exact ⟨j + 1, by omega, by go_num, by rw [Hsn2.out]; simp, HRf.out, HGf.out⟩
          case measure => (simp [RowKit.intOf]; omega)
        · rw [if_pos (by rfl)]
          go_simp
          refine hK.out _ _ (by trivial) (fun hHeld => ?_)
          clear hK K
          (try simp only [Act.put, List.setIfInBounds_toArray, List.set_cons_zero, List.set_cons_succ, List.getElem_toArray, List.getElem_cons_zero, List.getElem_cons_succ])
          (refine takeOn (i := 4) (v := ?_) (by kernel_rfl) (by rfl) (by rfl) (by kernel_rfl) (by kernel_rfl) (by intro _ _ _ h; exact h) ?_ (by assumption) ?_); (rotate_left 1); (focus ((intro w hSw); (try dsimp only at hSw); go_simp; (try with_reducible rfl))); (try simp only [Act.put, List.setIfInBounds_toArray, List.set_cons_zero, List.set_cons_succ, List.getElem_toArray, List.getElem_cons_zero, List.getElem_cons_succ])
          refine wpAnyH_ready (rs := [0, 5]) (by kernel_rfl) (by simp) ?_
          refine AllReadyH.cons (i := 0) (by rfl) (fun K hK => ?_) (AllReadyH.cons (i := 5) (by rfl) (fun K hK => ?_) (AllReadyH.nil))
          · rw [if_pos (by rfl)]
            go_simp
            refine hK.out _ _ (by trivial) (fun hHeld => ?_)
            clear hK K
            (try simp only [Act.put, List.setIfInBounds_toArray, List.set_cons_zero, List.set_cons_succ, List.getElem_toArray, List.getElem_cons_zero, List.getElem_cons_succ])
            refine takeOne (i := 5) (by kernel_rfl) (by rfl) (by rfl) (fun K hK => ?_)
            go_simp
            refine hK.out _ _ (by trivial) (fun hHeld => ?_)
            clear hK K
            (try simp only [Act.put, List.setIfInBounds_toArray, List.set_cons_zero, List.set_cons_succ, List.getElem_toArray, List.getElem_cons_zero, List.getElem_cons_succ])
            (refine takeOn (i := 7) (v := ?_) (by kernel_rfl) (by rfl) (by rfl) (by kernel_rfl) (by kernel_rfl) (by intro _ _ _ h; exact h) ?_ (by assumption) ?_); (rotate_left 1); (focus ((intro w hSw); (try dsimp only at hSw); go_simp; (first | done | with_reducible rfl | (rw [if_neg]; (try simp only [ByteArray.size_append, ByteArray.size_mk, List.size_toArray, List.length_cons, List.length_nil]); omega) | trace_state))); (try simp only [Act.put, List.setIfInBounds_toArray, List.set_cons_zero, List.set_cons_succ, List.getElem_toArray, List.getElem_cons_zero, List.getElem_cons_succ])
            (refine takeOn (i := 8) (v := ?_) (by kernel_rfl) (by rfl) (by rfl) (by kernel_rfl) (by kernel_rfl) (by intro _ _ _ h; exact h) ?_ (by assumption) ?_); (rotate_left 1); (focus ((intro w hSw); (try dsimp only at hSw); go_simp; (try with_reducible rfl))); (try simp only [Act.put, List.setIfInBounds_toArray, List.set_cons_zero, List.set_cons_succ, List.getElem_toArray, List.getElem_cons_zero, List.getElem_cons_succ])
            refine takeOne (i := 9) (by kernel_rfl) (by rfl) (by rfl) (fun K hK => ?_)
            go_simp
            refine hK.out _ _ (by trivial) (fun hHeld => ?_)
            clear hK K
            (try simp only [Act.put, List.setIfInBounds_toArray, List.set_cons_zero, List.set_cons_succ, List.getElem_toArray, List.getElem_cons_zero, List.getElem_cons_succ])
            refine wpAnyH_done (by kernel_rfl) ?_ _
            go_wp2_with fail
            go_roundw
            case rel => exact ⟨j + 1, by omega, by go_num, by rw [Hsn2.out]; simp, HRf.out, HGf.out⟩
            case measure => (simp [RowKit.intOf]; omega)
          · rw [if_pos (by rfl)]
            go_simp
            refine hK.out _ _ (by trivial) (fun hHeld => ?_)
            clear hK K
            (try simp only [Act.put, List.setIfInBounds_toArray, List.set_cons_zero, List.set_cons_succ, List.getElem_toArray, List.getElem_cons_zero, List.getElem_cons_succ])
            (refine takeOn (i := 7) (v := ?_) (by kernel_rfl) (by rfl) (by rfl) (by kernel_rfl) (by kernel_rfl) (by intro _ _ _ h; exact h) ?_ (by assumption) ?_); (rotate_left 1); (focus ((intro w hSw); (try dsimp only at hSw); go_simp; (first | done | with_reducible rfl | (rw [if_neg]; (try simp only [ByteArray.size_append, ByteArray.size_mk, List.size_toArray, List.length_cons, List.length_nil]); omega) | trace_state))); (try simp only [Act.put, List.setIfInBounds_toArray, List.set_cons_zero, List.set_cons_succ, List.getElem_toArray, List.getElem_cons_zero, List.getElem_cons_succ])
            refine takeOne (i := 0) (by kernel_rfl) (by rfl) (by rfl) (fun K hK => ?_)
            go_simp
            refine hK.out _ _ (by trivial) (fun hHeld => ?_)
            clear hK K
            (try simp only [Act.put, List.setIfInBounds_toArray, List.set_cons_zero, List.set_cons_succ, List.getElem_toArray, List.getElem_cons_zero, List.getElem_cons_succ])
            (refine takeOn (i := 8) (v := ?_) (by kernel_rfl) (by rfl) (by rfl) (by kernel_rfl) (by kernel_rfl) (by intro _ _ _ h; exact h) ?_ (by assumption) ?_); (rotate_left 1); (focus ((intro w hSw); (try dsimp only at hSw); go_simp; (try with_reducible rfl))); (try simp only [Act.put, List.setIfInBounds_toArray, List.set_cons_zero, List.set_cons_succ, List.getElem_toArray, List.getElem_cons_zero, List.getElem_cons_succ])
            refine takeOne (i := 9) (by kernel_rfl) (by rfl) (by rfl) (fun K hK => ?_)
            go_simp
            refine hK.out _ _ (by trivial) (fun hHeld => ?_)
            clear hK K
            (try simp only [Act.put, List.setIfInBounds_toArray, List.set_cons_zero, List.set_cons_succ, List.getElem_toArray, List.getElem_cons_zero, List.getElem_cons_succ])
            refine wpAnyH_done (by kernel_rfl) ?_ _
            go_wp2_with fail
            go_roundw
            case rel => exact ⟨j + 1, by omega, by go_num, by rw [Hsn2.out]; simp, HRf.out, HGf.out⟩
            case measure => (simp [RowKit.intOf]; omega)
    · have hltI : ¬ (j : Int) < (a.length : Int) := by omega
      have hjl : j = a.length := by omega
      subst hjl
      rw [List.take_length] at hR ⊢
      go_wp2_with fail
      go_ret
      exact ⟨rfl, hR, hG⟩
end Go.Zz

/- What stays where a call writes into one box, grows the slice that lies in it, and writes into one more row. -/
namespace Go.Zz
open Go.RowKit Go.Proofs
set_option maxHeartbeats 1000000

/-- w' is w with new blocks, and writes to the blocks b and g and to the row o alone -/
structure Fr2 (b g : Nat) (o : Option Nat) (w w' : World) : Prop where
  os : w'.os = w.os
  tape : w'.tape = w.tape
  output : w'.output = w.output
  size : w.heap.size ≤ w'.heap.size
  block : ∀ k, k < w.heap.size → k ≠ b → k ≠ g → some k ≠ o → w'.heap[k]? = w.heap[k]?
theorem Fr2.refl (b g : Nat) (o : Option Nat) (w : World) : Fr2 b g o w w := ⟨rfl, rfl, rfl, Nat.le_refl _, fun _ _ _ _ _ => rfl⟩
theorem Fr2.trans {b g : Nat} {o o1 : Option Nat} {w w1 w2 : World} (h : Fr2 b g o w w1) (hn : Nw o w o1) (k : Fr2 b g o1 w1 w2) : Fr2 b g o w w2 :=
  ⟨k.os.trans h.os, k.tape.trans h.tape, k.output.trans h.output, Nat.le_trans h.size k.size, fun i hi hb hg ho => by
    rw [k.block i (Nat.lt_of_lt_of_le hi h.size) hb hg fun e => ?_, h.block i hi hb hg ho]
    rcases hn with hn | hn
    · rw [hn] at e; exact ho e
    · have := hn i e.symm; omega⟩
theorem Ext.fr2 {w w' : World} (h : Ext w w') (b g : Nat) (o : Option Nat) : Fr2 b g o w w' := ⟨h.os, h.tape, h.output, h.size, fun k hk _ _ _ => h.block k hk⟩
theorem fr2_row {b g : Nat} {o : Option Nat} {w w' : World} (h : w.grownBy w' (some g)) : Fr2 b g o w w' := ⟨h.os, h.tape, h.output, h.size, fun k hk _ hg _ => h.block k hk (fun e => hg (by cases e; rfl))⟩
theorem fr2_own {b g : Nat} {o : Option Nat} {w w' : World} (h : w.grownBy w' o) : Fr2 b g o w w' := ⟨h.os, h.tape, h.output, h.size, fun k hk _ _ ho => h.block k hk ho⟩
theorem fr2_set (b g : Nat) (o : Option Nat) (w : World) (i : Nat) (v : Value) : Fr2 b g o w (w.setCell ⟨b, i, none⟩ v) :=
  ⟨rfl, rfl, rfl, by simp, fun k _ hb _ _ => Below.heap_setCell _ _ _ _ (fun e => hb e)⟩
theorem Fr2.ext {b g : Nat} {o : Option Nat} {w0 w w' : World} (h : Fr2 b g o w w') (hE : Ext w0 w) (hb : w0.heap.size ≤ b) (hg : w0.heap.size ≤ g) (ho : ∀ k, o = some k → w0.heap.size ≤ k) : Ext w0 w' := by
  have hs := hE.size
  refine ⟨h.os.trans hE.os, h.tape.trans hE.tape, h.output.trans hE.output, Nat.le_trans hs h.size, fun k hk => ?_⟩
  rw [h.block k (Nat.lt_of_lt_of_le hk hs) (by omega) (by omega) fun e => by have := ho k e.symm; omega]
  exact hE.block k hk
theorem Fr2.blk {b g : Nat} {o : Option Nat} {w w' : World} (h : Fr2 b g o w w') {c : Nat} {T : TypeId} {cs : Array Value} (hB : Blk w c T cs) (hc : c ≠ b) (hg : c ≠ g) (ho : o ≠ some c) : Blk w' c T cs := by
  unfold Blk; rw [h.block c hB.lt hc hg fun e => ho e.symm]; exact hB
end Go.Zz

/- Factorizations: the program's closure that tries atoms: its leaf. -/
namespace Go.Zz
open Go.RowKit Go.Proofs
set_option maxHeartbeats 600000
set_option maxRecDepth 8000

theorem OwnF.set_ne {w0 w : World} {v : Value} {A : List Nat} (h : OwnF w0 w v A) {b i : Nat} {cs : Array Value} (hB : Blk w b 75 cs) (u : Value) : OwnF w0 (w.setCell ⟨b, i, none⟩ u) v A := by
  obtain ⟨L, h1, h2, h3⟩ := h
  exact ⟨L, h1, h2.set_ne (h2.not hB (by decide)) u, fun j hj => (h3 j hj).other hB (by decide) i u⟩
theorem tryLeaf_any (va vX vo pT pY : Value) (A : List (List Nat)) (X O : List Nat) (i0 : Int) (bA bO : Nat) (w00 w0 w : World) (hB : Blk w bO 75 #[vo]) (hBA : Blk w bA 107 #[va]) (hO : OwnF w0 w vo O) (hA : OwnC w00 w va A) (hX : Ints w vX (castL X)) (hXo : ∀ x ∈ X, x < A.length) (hw : Ext w0 w) (hXl : X.length ≤ 999) (hOn : O.length < 1000000000000) :
    Calls Tryz.prog 159 #[.int .i64 i0, .int .i64 0, vX, .pointer (some ⟨bA, 0, none⟩), .pointer (some ⟨bO, 0, none⟩), pT, pY] w fun e w' => e = .returned (.tuple #[]) ∧ ∃ vo', Blk w' bO 75 #[vo'] ∧ OwnF w0 w' vo' (O ++ [X.length]) ∧ Fr bO vo.ownBlock w w' ∧ Nw vo.ownBlock w vo'.ownBlock := by
  obtain ⟨aoX, cX, adrX, rfl, hadrX, hcellX⟩ := hX.nats
  have hixX := ints_index (c := cX) elI szI hadrX
  obtain ⟨aoA, cA, rfl, -, hcA⟩ := hA.shape
  have HcA := Lib.hid hcA
  obtain ⟨aoO, cO, rfl, -⟩ := hO.shape
  have HBA := Lib.hid hBA
  have HB := Lib.hid hB
  have HO := Lib.hid hO
  have Hcx := Lib.hid hcellX
  have hO0 : OwnL 22 w (w.alloc (.cells #[] 22)) (.slice (some ⟨w.heap.size, 0, none⟩) 0 0) [] := ownL_made (Ext.refl w)
  have hE0 := (Ext.refl w).alloc (.cells #[] 22)
  clear hadrX hcA hBA hB hO hcellX hX hA
  go_enter Tryz.func159, Tryz.ntmps159
  go_wp2_with fail
  go_loopw [10, 19] (fun so sj wr => ∃ (j : Nat) (M : List Value), j ≤ X.length ∧ sj = .int .i64 j ∧ M.length = j ∧ OwnL 22 w wr so M ∧ Ext w wr) (fun _ sj _ => X.length - (RowKit.intOf sj).toNat)
  case atStart => exact ⟨0, [], by omega, rfl, rfl, hO0, hE0⟩
  case round =>
    clear hO0 hE0
    obtain ⟨j, M, hj, rfl, hM, hOM, hE⟩ := hrel
    have HM := Lib.hid hM
    obtain ⟨aoM, cM, rfl, -⟩ := hOM.shape
    clear hM
    by_cases hlt : j < X.length
    · have hltI : (j : Int) < (X.length : Int) := by omega
      have hx : nthN X j < A.length := hXo _ (nthN_mem hlt)
      have hcx := Hcx.out j wr hlt hE
      obtain ⟨x, hxd⟩ : ∃ x, x = nthN X j := ⟨_, rfl⟩
      rw [← hxd] at hx hcx
      obtain ⟨gA, y, rfl, hcy, hRy⟩ := HcA.out x hx
      have hixA := rowV_ix elV szV gA A.length cA
      have kA := hE.cell hcy
      have kB := (HBA.out.ext hE).cell (i := 0) (v := .slice (some ⟨gA, 0, none⟩) A.length cA) rfl
      have cC := copyInts_any _ _ wr ((hRy.ext hE).ints)
      have hn : M.length < 1000000000000 := by rw [HM.out]; omega
      clear hxd hcy hRy
      go_wp2_with (first | (go_at_call 86; refine cC.mono ?_; rintro e w2 ⟨v2, rfl, hO2, hE2⟩; obtain ⟨ao2, c2, rfl, -⟩ := hO2.shape) | (at_builtin; refine wp_append1L slV rfl _ _ rfl w w2 _ M _ rfl (hOM.ext hE2) (hE.trans hE2) hn rfl rfl ?_; intro v5 w5 hO5 hG5 hN5))
      go_roundw
      case rel => exact ⟨j + 1, _, by omega, by go_num, by rw [List.length_append, List.length_singleton, HM.out], hO5, (hE.trans hE2).grown hG5 (fun g hg => (hOM.blk g hg).1)⟩
      case measure => (simp [RowKit.intOf]; omega)
    · have hltI : ¬ (j : Int) < (X.length : Int) := by omega
      have hjl : j = X.length := by omega
      obtain ⟨L, hL1, hL2, hL3⟩ := HO.out
      have kO := (HB.out.ext hE).cell (i := 0) (v := .slice aoO O.length cO) rfl
      have hn : L.length < 1000000000000 := by omega
      have HL1 := Lib.hid hL1
      have hR := rowL_own hOM (by rw [HM.out]; omega)
      clear hL1
      go_wp2_with (at_builtin; refine wp_append1L slW rfl _ _ rfl w0 wr _ L _ rfl (hL2.ext hE) (hw.trans hE) hn rfl rfl ?_; intro v5 w5 hO5 hG5 hN5; have hB5 := (HB.out.ext hE).grown hG5 (fun k hk e => (hL2.ext hE).not (HB.out.ext hE) (by decide) (by rw [hk, e])); have hf5 := hB5.free 0; have hc5 := hB5.cell (i := 0) rfl; obtain ⟨ao5, c5, rfl, -⟩ := hO5.shape)
      have hll : (L ++ [Value.slice aoM M.length cM]).length = L.length + 1 := by simp
      rw [hll] at hO5 hN5
      have hB6 := hB5.set 0 (.slice ao5 (L.length + 1) c5)
      go_wp2_with fail
      have hR2 : RowL wr (Value.slice aoM M.length cM) X.length := by
        have e : M.length = X.length := by rw [HM.out, hjl]
        exact Eq.mp (congrArg (RowL wr (Value.slice aoM M.length cM)) e) hR
      have hOF := OwnF.more HL1.out (hL2.ext hE) (fun i hi => (hL3 i hi).ext hE) hR2 hO5 hG5
      refine bodyPost_ret (v := .tuple #[]) (by simp [results, Tryz.results159, go_sem]) rfl ?_
      exact ⟨rfl, _, hB6, hOF.set_ne hB5 _, ((hE.fr _ _).trans (Nw.refl _ _) ((fr_grown hG5).trans hN5 (fr_set _ _ _ _ _))), (Nw.refl _ _).trans hE.size hN5⟩
end Go.Zz
