/- Marks in what is owned: groups. -/
import Derived.Test.YtgkojfjbfmpaaaaGr5
import Derived.Test.YtgkojfjbfmpaaaaGr6
import Derived.Test.YtgkojfjbfmpaaaaGr2
import Derived.Laws.OwnMore
import Derived.Test.YtgkojfjbfmpaaaaGr4
namespace Go.Zz
open Go.RowKit Go.Proofs
/-- what lies in another block stays -/
theorem Own.kept {TI : TypeId} {w0 w w' : World} {v : Value} {l : List Int} {row : Option Nat} (h : Own TI w0 w v l) (hg : w.grownBy w' row) (hne : v.ownBlock = none ∨ v.ownBlock ≠ row) : Own TI w0 w' v l :=
  ⟨h.1.kept hg hne, h.2⟩
theorem blk_ne {TI : TypeId} {a b c d : World} {u v : Value} {l m : List Int} (h : Own TI a b u l) (k : Own TI c d v m) (hs : b.heap.size ≤ c.heap.size) : u.ownBlock = none ∨ u.ownBlock ≠ v.ownBlock := by
  cases hu : u.ownBlock with
  | none => exact Or.inl rfl
  | some i =>
    refine Or.inr fun e => ?_
    have h1 := (h.blk i hu).2
    have h2 := (k.blk i e.symm).1
    omega
theorem blk_ne' {TI : TypeId} {a b c d : World} {u v : Value} {l m : List Int} (h : Own TI a b u l) (k : Own TI c d v m) (hs : d.heap.size ≤ a.heap.size) : u.ownBlock = none ∨ u.ownBlock ≠ v.ownBlock := by
  cases hu : u.ownBlock with
  | none => exact Or.inl rfl
  | some i =>
    refine Or.inr fun e => ?_
    have h1 := (h.blk i hu).1
    have h2 := (k.blk i e.symm).2
    omega
end Go.Zz

/- Kept counts that are made new. -/
namespace Go.Zz
open Go.RowKit Go.Proofs
set_option maxHeartbeats 1000000
set_option maxRecDepth 20000

/-- a value of type Kept whose slices are owned, apart from each other -/
def OwnK2 (w0 w : World) (c : Value) (l : List Int) (n : Int) (m : List Int) : Prop :=
  ∃ v u, c = .agg #[v, .int .i64 n, u] ∧ Own 3 w0 w v l ∧ Own 3 w0 w u m ∧ (v.ownBlock = none ∨ v.ownBlock ≠ u.ownBlock)
theorem OwnK2.isK {w0 w : World} {c : Value} {l m : List Int} {n : Int} (h : OwnK2 w0 w c l n m) : IsK w c l n m := by
  obtain ⟨v, u, rfl, h1, h2, _⟩ := h; exact ⟨v, u, rfl, h1.ints, h2.ints⟩
theorem OwnK2.none (w0 w : World) : OwnK2 w0 w (.agg #[.slice none 0 0, .int .i64 0, .slice none 0 0]) [] 0 [] :=
  ⟨_, _, rfl, Own.nil _ _ _, Own.nil _ _ _, Or.inl rfl⟩
theorem OwnK2.mono {w0 w1 w : World} {c : Value} {l m : List Int} {n : Int} (h : OwnK2 w1 w c l n m) (hE : Ext w0 w1) : OwnK2 w0 w c l n m := by
  obtain ⟨v, u, rfl, h1, h2, h3⟩ := h; exact ⟨v, u, rfl, h1.mono hE, h2.mono hE, h3⟩
theorem OwnK2.ext {w0 w w' : World} {c : Value} {l m : List Int} {n : Int} (h : OwnK2 w0 w c l n m) (hE : Ext w w') : OwnK2 w0 w' c l n m := by
  obtain ⟨v, u, rfl, h1, h2, h3⟩ := h; exact ⟨v, u, rfl, h1.ext hE, h2.ext hE, h3⟩
def nkL (l : List Int) (a : Int) : List Int := if isSetB l a then l else []
def nkN (l : List Int) (a : Int) : Int := if isSetB l a then a else 0
theorem nk_no {l : List Int} {a : Int} (h : isSetB l a = false) : nkL l a = [] ∧ nkN l a = 0 ∧ tabF l a a = [] := by unfold nkL nkN; rw [h]; exact ⟨rfl, rfl, tabF_no (by rw [h]; rfl)⟩
theorem nk_yes {l : List Int} {a : Int} (h : isSetB l a = true) : nkL l a = l ∧ nkN l a = a := by unfold nkL nkN; rw [h]; exact ⟨rfl, rfl⟩

theorem copyInts_any (v : Value) (l : List Int) (w : World) (h : Ints w v l) :
    Calls Try.prog 67 #[v] w fun e w' => ∃ v', e = .returned v' ∧ Own 3 w w' v' l ∧ Ext w w' := by
  have hO := own_made (TI := 3) (n := 0) (by omega) (Ext.refl w) [] rfl
  have hE := (Ext.refl w).alloc (.cells #[] 3)
  have hI := h.ext hE
  obtain ⟨ao, c, rfl, hc, hlen, -⟩ := h
  go_enter Try.func67, Try.ntmps67
  go_wp2_with (at_builtin; refine wp_appends slI rfl _ _ rfl w _ _ _ _ _ hO hI hE (by simpa using hlen) rfl rfl ?_; intro v1 w1 hO1 hE1)
  go_ret
  exact ⟨_, rfl, by simpa using hO1, hE1⟩

theorem NewKept_any (v : Value) (l : List Int) (a : Int) (w : World) (h : Ints w v l) :
    Calls Try.prog 12 #[.agg #[v], .int .i64 a] w fun e w' => ∃ c, e = .returned (.tuple #[c, .bool (isSetB l a)]) ∧ OwnK2 w w' c (nkL l a) (nkN l a) (tabF l a a) ∧ Ext w w' := by
  obtain ⟨wb, hwb⟩ : ∃ wb, wb = w.alloc (.cells #[v] 26) := ⟨_, rfl⟩
  have hE0 := (Ext.refl w).alloc (.cells #[v] 26)
  have hb := box_cell w v 26
  rw [← hwb] at hE0 hb
  have hg : ∀ W, Ext wb W → Ints W v l := fun W hW => h.ext (hE0.trans hW)
  have hE := Ext.refl wb
  have Hsz : Hid (w.heap.size + 1 = wb.heap.size) := Lib.hid (by rw [hwb]; simp [go_sem])
  have Hwb := Lib.hid hwb
  clear hwb h
  obtain ⟨wc, hwc⟩ : ∃ wc, wc = wb.alloc (.cells #[.slice none 0 0, .int .i64 0, .slice none 0 0] 28) := ⟨_, rfl⟩
  have hBc : Blk wc wb.heap.size 28 #[.slice none 0 0, .int .i64 0, .slice none 0 0] := by rw [hwc]; exact Blk.new _ _ _
  have hRc : Res wc wb.heap.size 3 := hBc.res (by simp)
  have hAc : Ext wb wc := by rw [hwc]; exact hE.alloc _
  replace hE := Ext.refl wc
  have Hsz2 : Hid (wb.heap.size + 1 = wc.heap.size) := Lib.hid (by rw [hwc]; simp [go_sem])
  have Hwc := Lib.hid hwc
  clear hwc hBc
  have hbc : ∀ W, Ext wc W → W.cell? ⟨w.heap.size, 0, none⟩ = some v := fun W hW => hb W (hAc.trans hW)
  have hgc : ∀ W, Ext wc W → Ints W v l := fun W hW => hg W (hAc.trans hW)
  cases hs : isSetB l a
  · have Hs := Lib.hid (nk_no hs)
    go_enter Try.func12, Try.ntmps12
    go_wp2_with fail
    rw [← Hwb.out, ← Hwc.out]; rw [Hsz.out]
    refine (IsSet_val _ _ _ _ (hgc _ hE) hs).mono ?_
    rintro e w1 ⟨rfl, hE1⟩
    have hr := hRc.ext hE1
    unfold Res at hr
    go_wp2_with fail
    exact bodyPost_ret (v := .tuple #[.agg #[.slice none 0 0, .int .i64 0, .slice none 0 0], .bool false]) (by simp [results, Try.results12, go_sem, hr]) rfl ⟨_, rfl, by rw [Hs.out.1, Hs.out.2.1, Hs.out.2.2]; exact OwnK2.none _ _, hE0.trans (Ext.setCell (Ext.setCell (Ext.setCell (hAc.trans hE1) (Nat.le_refl _) _) (Nat.le_refl _) _) (Nat.le_refl _) _)⟩
  · have Hs := Lib.hid (nk_yes hs)
    go_enter Try.func12, Try.ntmps12
    go_wp2_with fail
    rw [← Hwb.out, ← Hwc.out]; rw [Hsz.out]
    refine (IsSet_val _ _ _ _ (hgc _ hE) hs).mono ?_
    rintro e w1 ⟨rfl, hE1⟩
    replace hE := hE1
    have hlt : wb.heap.size < w1.heap.size := by have := Hsz2.out; have := hE1.size; omega
    clear hs hE1
    go_wp2_with fail
    have hD := hE.drew
    first | (go_region_held3 (fun W => Ext (wb) W ∧ W.cell? ⟨w.heap.size, 0, none⟩ = some v ∧ (∀ i, i < 3 → W.cell? ⟨(wb).heap.size, i, none⟩ = some (At W ⟨(wb).heap.size, i, none⟩) ∧ W.frozen? ⟨(wb).heap.size, i, none⟩ = false)) (exact ⟨(by (repeat (refine Ext.setCell ?_ (Nat.le_refl _) _)); exact Ext.trans hAc (by repeat (first | assumption | exact Ext.refl _ | (apply And.left; assumption) | apply Ext.drew | apply Ext.alloc))), hb _ (by (repeat (refine Ext.setCell ?_ (Nat.le_refl _) _)); exact Ext.trans hAc (by repeat (first | assumption | exact Ext.refl _ | (apply And.left; assumption) | apply Ext.drew | apply Ext.alloc))), (by (repeat (refine Res.setCell ?_ _ _)); exact Res.ext hRc (by repeat (first | assumption | exact Ext.refl _ | (apply And.left; assumption) | apply Ext.drew | apply Ext.alloc)))⟩) (first | (go_at_call 67; ((with_reducible refine Calls.mono (Calls.sh (copyInts_any _ _ _ (hgc _ (by repeat (first | assumption | exact Ext.refl _ | (apply And.left; assumption) | apply Ext.drew | apply Ext.alloc))))) ?_); rintro e wH0 ⟨aoC, coC, rfl, hOC, hX0⟩; have hH0 := Ext.trans (a := wc) (by repeat (first | assumption | exact Ext.refl _ | (apply And.left; assumption) | apply Ext.drew | apply Ext.alloc)) hX0)) | (go_at_call 68; ((with_reducible refine Calls.mono (Calls.sh (SumTable_any _ _ _ _ _ (hgc _ (by repeat (first | assumption | exact Ext.refl _ | (apply And.left; assumption) | apply Ext.drew | apply Ext.alloc))))) ?_); rintro e wH1 ⟨aoS, coS, rfl, hOS, hX1⟩; have hH1 := Ext.trans (a := wc) (by repeat (first | assumption | exact Ext.refl _ | (apply And.left; assumption) | apply Ext.drew | apply Ext.alloc)) hX1)))) | (fail "the region with a result")
    all_goals go_wp2_with fail
    have hr := hRc.ext hH1
    unfold Res at hr
    have hwc : wb.heap.size < wc.heap.size := by have := Hsz2.out; omega
    have hv := (hOC.ext hX1).mono (show Ext wc _ by repeat (first | assumption | exact Ext.refl _ | (apply And.left; assumption) | apply Ext.drew | apply Ext.alloc))
    have hu := hOS.mono (show Ext wc _ by repeat (first | assumption | exact Ext.refl _ | (apply And.left; assumption) | apply Ext.drew | apply Ext.alloc))
    exact bodyPost_ret (v := .tuple #[.agg #[.slice aoC l.length coC, .int .i64 a, .slice aoS (tabF l a a).length coS], .bool true]) (by simp [results, Try.results12, go_sem, hr]) rfl ⟨_, rfl, by
      rw [Hs.out.1, Hs.out.2]
      exact ⟨_, _, rfl, (((hv.setCell_below hwc _).setCell_below hwc _).setCell_below hwc _).mono (hE0.trans hAc), (((hu.setCell_below hwc _).setCell_below hwc _).setCell_below hwc _).mono (hE0.trans hAc), blk_ne hOC hOS (Nat.le_refl _)⟩,
      hE0.trans (Ext.setCell (Ext.setCell (Ext.setCell (hAc.trans hH1) (Nat.le_refl _) _) (Nat.le_refl _) _) (Nat.le_refl _) _)⟩
theorem sNewKept_any (v : Value) (l : List Int) (a : Int) (w : World) (h : Ints w v l) :
    Calls Try.prog 23 #[.agg #[v], .int .i64 a] w fun e w' => ∃ c, e = .returned (.tuple #[c, .bool (isSetB l a)]) ∧ OwnK2 w w' c (nkL l a) (nkN l a) (tabF l a a) ∧ Ext w w' := by
  obtain ⟨wb, hwb⟩ : ∃ wb, wb = w.alloc (.cells #[v] 26) := ⟨_, rfl⟩
  have hE0 := (Ext.refl w).alloc (.cells #[v] 26)
  have hb := box_cell w v 26
  rw [← hwb] at hE0 hb
  have hg : ∀ W, Ext wb W → Ints W v l := fun W hW => h.ext (hE0.trans hW)
  have hE := Ext.refl wb
  have Hsz : Hid (w.heap.size + 1 = wb.heap.size) := Lib.hid (by rw [hwb]; simp [go_sem])
  have Hwb := Lib.hid hwb
  clear hwb h
  obtain ⟨wc, hwc⟩ : ∃ wc, wc = wb.alloc (.cells #[.slice none 0 0, .int .i64 0, .slice none 0 0] 28) := ⟨_, rfl⟩
  have hBc : Blk wc wb.heap.size 28 #[.slice none 0 0, .int .i64 0, .slice none 0 0] := by rw [hwc]; exact Blk.new _ _ _
  have hRc : Res wc wb.heap.size 3 := hBc.res (by simp)
  have hAc : Ext wb wc := by rw [hwc]; exact hE.alloc _
  replace hE := Ext.refl wc
  have Hsz2 : Hid (wb.heap.size + 1 = wc.heap.size) := Lib.hid (by rw [hwc]; simp [go_sem])
  have Hwc := Lib.hid hwc
  clear hwc hBc
  have hbc : ∀ W, Ext wc W → W.cell? ⟨w.heap.size, 0, none⟩ = some v := fun W hW => hb W (hAc.trans hW)
  have hgc : ∀ W, Ext wc W → Ints W v l := fun W hW => hg W (hAc.trans hW)
  cases hs : isSetB l a
  · have Hs := Lib.hid (nk_no hs)
    go_enter Try.func23, Try.ntmps23
    go_wp2_with fail
    rw [← Hwb.out, ← Hwc.out]; rw [Hsz.out]
    refine (sIsSet_val _ _ _ _ (hgc _ hE) hs).mono ?_
    rintro e w1 ⟨rfl, hE1⟩
    have hr := hRc.ext hE1
    unfold Res at hr
    go_wp2_with fail
    exact bodyPost_ret (v := .tuple #[.agg #[.slice none 0 0, .int .i64 0, .slice none 0 0], .bool false]) (by simp [results, Try.results23, go_sem, hr]) rfl ⟨_, rfl, by rw [Hs.out.1, Hs.out.2.1, Hs.out.2.2]; exact OwnK2.none _ _, hE0.trans (Ext.setCell (Ext.setCell (Ext.setCell (hAc.trans hE1) (Nat.le_refl _) _) (Nat.le_refl _) _) (Nat.le_refl _) _)⟩
  · have Hs := Lib.hid (nk_yes hs)
    go_enter Try.func23, Try.ntmps23
    go_wp2_with fail
    rw [← Hwb.out, ← Hwc.out]; rw [Hsz.out]
    refine (sIsSet_val _ _ _ _ (hgc _ hE) hs).mono ?_
    rintro e w1 ⟨rfl, hE1⟩
    replace hE := hE1
    have hlt : wb.heap.size < w1.heap.size := by have := Hsz2.out; have := hE1.size; omega
    clear hs hE1
    go_wp2_with fail
    have hD := hE.drew
    first | (go_region_held3 (fun W => Ext (wb) W ∧ W.cell? ⟨w.heap.size, 0, none⟩ = some v ∧ (∀ i, i < 3 → W.cell? ⟨(wb).heap.size, i, none⟩ = some (At W ⟨(wb).heap.size, i, none⟩) ∧ W.frozen? ⟨(wb).heap.size, i, none⟩ = false)) (exact ⟨(by (repeat (refine Ext.setCell ?_ (Nat.le_refl _) _)); exact Ext.trans hAc (by repeat (first | assumption | exact Ext.refl _ | (apply And.left; assumption) | apply Ext.drew | apply Ext.alloc))), hb _ (by (repeat (refine Ext.setCell ?_ (Nat.le_refl _) _)); exact Ext.trans hAc (by repeat (first | assumption | exact Ext.refl _ | (apply And.left; assumption) | apply Ext.drew | apply Ext.alloc))), (by (repeat (refine Res.setCell ?_ _ _)); exact Res.ext hRc (by repeat (first | assumption | exact Ext.refl _ | (apply And.left; assumption) | apply Ext.drew | apply Ext.alloc)))⟩) (first | (refine step_copy slI rfl _ _ rfl _ _ _ rfl rfl (by first | exact Blk.new _ _ _ | exact (Blk.new _ _ _).ext (by repeat (first | assumption | exact Ext.refl _ | (apply And.left; assumption) | apply Ext.drew | apply Ext.alloc))) (hgc _ (by repeat (first | assumption | exact Ext.refl _ | (apply And.left; assumption) | apply Ext.drew | apply Ext.alloc))) (wc) (by first | exact Nat.le_refl _ | (apply Ext.size; repeat (first | assumption | exact Ext.refl _ | (apply And.left; assumption) | apply Ext.drew | apply Ext.alloc); done) | (simp; omega)) (by repeat (first | assumption | exact Ext.refl _ | (apply And.left; assumption) | apply Ext.drew | apply Ext.alloc)) ?_; intro aoC coC wC hOC hX0; have hH0 := Ext.trans (a := wc) (by repeat (first | assumption | exact Ext.refl _ | (apply And.left; assumption) | apply Ext.drew | apply Ext.alloc)) hX0) | (go_at_call 71; ((with_reducible refine Calls.mono (Calls.sh (sSumTable_any _ _ _ _ _ (hgc _ (by repeat (first | assumption | exact Ext.refl _ | (apply And.left; assumption) | apply Ext.drew | apply Ext.alloc))))) ?_); rintro e wH1 ⟨aoS, coS, rfl, hOS, hX1⟩; have hH1 := Ext.trans (a := wc) (by repeat (first | assumption | exact Ext.refl _ | (apply And.left; assumption) | apply Ext.drew | apply Ext.alloc)) hX1)))) | (fail "the region with a result")
    all_goals go_wp2_with fail
    have hr := hRc.ext hH1
    unfold Res at hr
    have hwc : wb.heap.size < wc.heap.size := by have := Hsz2.out; omega
    have hv := (hOC.ext hX1).mono (show Ext wc _ by repeat (first | assumption | exact Ext.refl _ | (apply And.left; assumption) | apply Ext.drew | apply Ext.alloc))
    have hu := hOS.mono (show Ext wc _ by repeat (first | assumption | exact Ext.refl _ | (apply And.left; assumption) | apply Ext.drew | apply Ext.alloc))
    exact bodyPost_ret (v := .tuple #[.agg #[.slice aoC l.length coC, .int .i64 a, .slice aoS (tabF l a a).length coS], .bool true]) (by simp [results, Try.results23, go_sem, hr]) rfl ⟨_, rfl, by
      rw [Hs.out.1, Hs.out.2]
      exact ⟨_, _, rfl, (((hv.setCell_below hwc _).setCell_below hwc _).setCell_below hwc _).mono (hE0.trans hAc), (((hu.setCell_below hwc _).setCell_below hwc _).setCell_below hwc _).mono (hE0.trans hAc), blk_ne hOC hOS (Nat.le_refl _)⟩,
      hE0.trans (Ext.setCell (Ext.setCell (Ext.setCell (hAc.trans hH1) (Nat.le_refl _) _) (Nat.le_refl _) _) (Nat.le_refl _) _)⟩
end Go.Zz

/- Marks in kept counts. -/
namespace Go.Zz
open Go.RowKit Go.Proofs
set_option maxHeartbeats 400000

theorem Blk.grown {w w' : World} {b : Nat} {T : TypeId} {cs : Array Value} {row : Option Nat} (h : Blk w b T cs) (hg : w.grownBy w' row) (hne : ∀ k, row = some k → k ≠ b) : Blk w' b T cs := by
  unfold Blk
  rw [hg.block b h.lt (by
    cases row with
    | none => simp
    | some k => simp; exact fun e => hne k rfl (by first | exact e | exact e.symm))]
  exact h
/-- the slices of a value of type Kept lie below a block -/
def Below2 (c : Value) (top : Nat) : Prop := ∀ v n u, c = .agg #[v, n, u] → ∀ k, (v.ownBlock = some k ∨ u.ownBlock = some k) → k < top
theorem OwnK2.below {w0 w : World} {c : Value} {l m : List Int} {n : Int} (h : OwnK2 w0 w c l n m) : Below2 c w.heap.size := by
  obtain ⟨v, u, rfl, hv, hu, -⟩ := h
  intro v' n' u' e k hk
  simp at e
  obtain ⟨rfl, rfl, rfl⟩ := e
  rcases hk with hk | hk
  · exact (hv.blk k hk).2
  · exact (hu.blk k hk).2
theorem OwnK2.kept {w0 w w' : World} {c : Value} {l m : List Int} {n : Int} {row : Option Nat} (h : OwnK2 w0 w c l n m) (hg : w.grownBy w' row) (hr : ∀ k, row = some k → k < w0.heap.size) : OwnK2 w0 w' c l n m := by
  obtain ⟨v, u, rfl, hv, hu, hd⟩ := h
  have key : ∀ {x : Value} {ll : List Int}, Own 3 w0 w x ll → Own 3 w0 w' x ll := fun {x ll} hx => hx.kept hg (by
    cases hq : x.ownBlock with
    | none => exact Or.inl rfl
    | some k => exact Or.inr fun e => by have := hr k e.symm; have := (hx.blk k hq).1; omega)
  exact ⟨v, u, rfl, key hv, key hu, hd⟩
end Go.Zz

/- append(s, xs...) and append(s, y) to a slice that is empty or owned behind a world: as a run, as a step of a region that draws, with what stays. -/
namespace Go.Zz
open Go.RowKit Go.Proofs
set_option maxHeartbeats 1000000

/-- what stays behind an append: blocks of other types -/
def Oth (TI : TypeId) (w w' : World) : Prop := ∀ b T cs, T ≠ TI → Blk w b T cs → Blk w' b T cs
theorem Oth.refl (TI : TypeId) (w : World) : Oth TI w w := fun _ _ _ _ h => h
theorem Oth.trans {TI : TypeId} {a b c : World} (h : Oth TI a b) (k : Oth TI b c) : Oth TI a c := fun b T cs hT hB => k b T cs hT (h b T cs hT hB)
theorem Ext.oth {w w' : World} (h : Ext w w') (TI : TypeId) : Oth TI w w' := fun _ _ _ _ hB => hB.ext h
theorem own_not {TI T : TypeId} {w0 w : World} {v : Value} {l : List Int} (h : Own TI w0 w v l) {g : Nat} {cs : Array Value} (hB : Blk w g T cs) (hT : T ≠ TI) : v.ownBlock ≠ some g := fun e => by
  obtain ⟨h1, h2⟩ := h
  rcases h1.2 with ⟨rfl, _⟩ | ⟨g', cap, cur, rfl, _, hh, _⟩
  · cases e
  · simp [Value.ownBlock] at e
    subst e
    have hB' : w.heap[g']? = some (.cells cs T (0, 0)) := hB
    rw [hB'] at hh
    simp at hh
    exact hT hh.2
theorem oth_grown {TI : TypeId} {w0 w w' : World} {v : Value} {l : List Int} (h : Own TI w0 w v l) (hg : w.grownBy w' v.ownBlock) : Oth TI w w' := fun b T cs hT hB =>
  hB.grown hg fun k hk e => own_not h hB hT (by rw [hk, e])
theorem run_appendsE {P : Program} {T TI : TypeId} (hT : IntSl P T TI) (ty : TypeId) (wb w0 w : World) (v u : Value) (l m : List Int) (hO : OwnE TI wb w0 w v l) (hI : Ints w u m) (hE : Ext w0 w) (hn : l.length + m.length ≤ 17592186044416) :
    ∃ v' w', (Builtin.append_ #[T, T] ty #[v, u]).run P w = .ok v' w' ∧ OwnE TI wb w0 w' v' (l ++ m) ∧ Ext w0 w' ∧ Oth TI w w' := by
  obtain ⟨i, hi, hz, hs1, hby⟩ := hT.info
  obtain ⟨ao, c, rfl, hmc, hml, hc⟩ := hI
  cases ao with
  | none =>
    have hm : m = [] := by
      cases m with
      | nil => rfl
      | cons y m => obtain ⟨_, h, _⟩ := hc 0 (by simp); cases h
    subst hm
    refine ⟨v, w, ?_, by simpa using hO, hE, Oth.refl _ _⟩
    rcases hO with ⟨g, -, rfl, rfl, hB⟩ | hO
    · simp [Builtin.append_, run_underlying hT.und, sizeOf, typeInfo, hi, Builtin.lenOf, Builtin.firstCells, storeCells, Result.andThen]
    · rcases hO.1.2 with ⟨rfl, _⟩ | ⟨g, cap, cur, rfl, _, _, hnc, _⟩
      · simp [Builtin.append_, run_underlying hT.und, sizeOf, typeInfo, hi, Builtin.lenOf, Builtin.firstCells]
      · simp [Builtin.append_, run_underlying hT.und, sizeOf, typeInfo, hi, Builtin.lenOf, Builtin.firstCells, hnc, storeCells, Result.andThen]
  | some ad =>
    have hnews : ∀ j u, (m.map (Value.int .i64))[j]? = some u → w.cell? (ad.add j) = some u := by
      intro j u hu
      have hj : j < m.length := by have := (List.getElem?_eq_some_iff.1 hu).1; simpa using this
      obtain ⟨a', ha', hc'⟩ := hc j hj
      cases ha'
      rw [hc', ← hu, nth_get _ _ hj]; simp [hj]
    rcases hO with ⟨g, h0, rfl, rfl, hB⟩ | hO
    · by_cases hm : m = []
      · subst hm
        have hown : w.ownsRow wb.heap.size TI 1 (.slice (some ⟨g, 0, none⟩) 0 0) 0 [] := by
          have hB' : w.heap[g]? = some (.cells #[] TI (0, 0)) := hB
          exact ⟨by simp, Or.inr ⟨g, 0, #[], rfl, h0, hB', Nat.le_refl _, Nat.zero_le _, by simp, by simp⟩⟩
        refine ⟨_, w, ?_, Or.inl ⟨g, h0, rfl, rfl, hB⟩, hE, Oth.refl _ _⟩
        have hrun := run_append_owned_none (P := P) w wb.heap.size T ty TI i 1 hT.und hi (.slice (some ⟨g, 0, none⟩) 0 0) 0 [] hown
        rw [← hrun]; simp [Builtin.append_, run_underlying hT.und, sizeOf, typeInfo, hi, Builtin.lenOf, Builtin.firstCells, go_sem]
      · have hpos : 0 < m.length := Nat.pos_of_ne_zero (fun e => hm (List.eq_nil_of_length_eq_zero e))
        obtain ⟨v', w', hrun, r1, r2⟩ := run_append_arg_grows (P := P) (w := w) T ty TI i (.int .i64 0) 1 8 hT.und hi hz hs1 hby rfl (by omega) ⟨g, 0, none⟩ 0 0 [] (by simp) (by simp) ad m.length c (m.map (Value.int .i64)) (by simp) hnews (by omega) (by unfold maxLen; omega) (by omega)
        have hO' : Own TI w w' v' m := ⟨by simpa using r1, hml⟩
        have hE2 : Ext w w' := (Ext.refl w).grown r2 (by simp)
        exact ⟨v', w', hrun, Or.inr (by simpa using hO'.mono hE), hE.trans hE2, hE2.oth TI⟩
    · obtain ⟨v', w', hrun, r1, r2, -⟩ := run_append_own (P := P) w w0.heap.size T ty TI i (.int .i64 0) 1 8 hT.und hi hz hs1 hby rfl (by omega) v l.length _ hO.1 ad m.length c (m.map (Value.int .i64)) (by simp) hnews (ints_oneCell _ _) (by unfold maxLen; omega) (by omega) hE.size
      exact ⟨v', w', hrun, Or.inr ⟨by simpa using r1, by simp; omega⟩, hE.grown r2 fun k hk => (hO.blk k hk).1, oth_grown hO r2⟩
/-- as a step of a region that draws its order -/
theorem step_appendsE {P : Program} {ops : Array Oper} {o : Oper} {a : Act} {w : World} {K : Act → World → Prop} {Q : Exit → Act → World → Prop} {E : Prop} {T TI : TypeId} (hT : IntSl P T TI)
    (hg : o.guard = none) (s x : Operand) (hop : o.op = Op.call { callee := Callee.builtin Builtin.append, args := #[s, x], argTypes := #[T, T] })
    (wb w0 : World) (v u : Value) (l m : List Int) (hO : OwnE TI wb w0 w v l) (hI : Ints w u m) (hE : Ext w0 w) (hn : l.length + m.length ≤ 17592186044416) (hs : a.eval s = v) (hx : a.eval x = u)
    (hK : ∀ v' w', OwnE TI wb w0 w' v' (l ++ m) → Ext w0 w' → Oth TI w w' → K (a.put o.dst v') w') :
    if Region.wanted o (yielded ops a.tmps) = true then Oper.wp P o a w K Q else E := by
  have hw : Region.wanted o (yielded ops a.tmps) = true := by simp [Region.wanted, hg]
  rw [if_pos hw]
  obtain ⟨v', w', hrun, h1, h2, h3⟩ := run_appendsE hT o.type wb w0 w v u l m hO hI hE hn
  unfold Oper.wp
  simp [execOp, hop, resolve, invoke, builtin, hs, hx, hrun, Result.andThen]
  exact hK v' w' h1 h2 h3
section
variable {P : Program} {ops : Array Oper} {rest : List Oper} {o : Oper} {a : Act} {Q : Exit → Act → World → Prop} {T TI : TypeId}
theorem wp_appendsE (hT : IntSl P T TI) (hg : o.guard = none) (s x : Operand) (hop : o.op = Op.call { callee := Callee.builtin Builtin.append, args := #[s, x], argTypes := #[T, T] })
    (wb w0 w : World) (v u : Value) (l m : List Int) (hO : OwnE TI wb w0 w v l) (hI : Ints w u m) (hE : Ext w0 w) (hn : l.length + m.length ≤ 17592186044416) (hs : a.eval s = v) (hx : a.eval x = u)
    (hK : ∀ v' w', OwnE TI wb w0 w' v' (l ++ m) → Ext w0 w' → Oth TI w w' → wpList P ops Q rest (a.put o.dst v') w') :
    wpList P ops Q (o :: rest) a w := by
  obtain ⟨v', w', hrun, h1, h2, h3⟩ := run_appendsE hT o.type wb w0 w v u l m hO hI hE hn
  refine wpList_plain hg fun K hK' => ?_
  unfold Oper.wp
  simp [execOp, hop, resolve, invoke, builtin, hs, hx, hrun, Result.andThen]
  exact hK' _ _ (hK v' w' h1 h2 h3)
theorem ints_one (W : World) (y : Int) (TI : TypeId) : Ints (W.alloc (.cells #[.int .i64 y] TI)) (.slice (some ⟨W.heap.size, 0, none⟩) 1 1) [y] := by
  refine ⟨_, 1, rfl, Nat.le_refl _, by simp, fun i hi => ⟨_, rfl, ?_⟩⟩
  match i, hi with
  | 0, _ => simp [go_sem, nth, Addr.add]
/-- append(s, y), with what stays -/
theorem wp_append1K (hT : IntSl P T TI) (hg : o.guard = none) (s x : Operand) (hop : o.op = Op.call { callee := Callee.builtin Builtin.append, args := #[s, x], argTypes := #[T, T] })
    (wb w0 W : World) (v : Value) (l : List Int) (y : Int) (hO : OwnE TI wb w0 W v l) (hE : Ext w0 W) (hn : l.length < 17592186044416) (hs : a.eval s = v) (hx : a.eval x = .slice (some ⟨W.heap.size, 0, none⟩) 1 1)
    (hK : ∀ v' w', OwnE TI wb w0 w' v' (l ++ [y]) → Ext w0 w' → Oth TI W w' → wpList P ops Q rest (a.put o.dst v') w') :
    wpList P ops Q (o :: rest) a (W.alloc (.cells #[.int .i64 y] TI)) :=
  wp_appendsE hT hg s x hop wb w0 _ v _ l [y] (hO.ext ((Ext.refl W).alloc _)) (ints_one W y TI) (hE.alloc _) (by simp; omega) hs hx fun v' w' h1 h2 h3 =>
    hK v' w' h1 h2 ((((Ext.refl W).alloc _).oth TI).trans h3)
end
end Go.Zz

/- What stays where a call writes into one box and grows the slice that lies in it. -/
namespace Go.Zz
open Go.RowKit Go.Proofs
set_option maxHeartbeats 1000000

theorem own_nb {TI : TypeId} {w0 w : World} {v : Value} {l : List Int} {b : Nat} (h : Own TI w0 w v l) (hb : b < w0.heap.size) : v.ownBlock ≠ some b := fun e => by have := (h.blk b e).1; omega
/-- w' is w with new blocks, and writes to block b and to the row o alone -/
structure Fr (b : Nat) (o : Option Nat) (w w' : World) : Prop where
  os : w'.os = w.os
  tape : w'.tape = w.tape
  output : w'.output = w.output
  size : w.heap.size ≤ w'.heap.size
  block : ∀ k, k < w.heap.size → k ≠ b → some k ≠ o → w'.heap[k]? = w.heap[k]?
/-- the row o' is the row o, or newer than w -/
def Nw (o : Option Nat) (w : World) (o' : Option Nat) : Prop := o' = o ∨ ∀ k, o' = some k → w.heap.size ≤ k
theorem Fr.refl (b : Nat) (o : Option Nat) (w : World) : Fr b o w w := ⟨rfl, rfl, rfl, Nat.le_refl _, fun _ _ _ _ => rfl⟩
theorem Nw.refl (o : Option Nat) (w : World) : Nw o w o := Or.inl rfl
theorem Fr.trans {b : Nat} {o o1 : Option Nat} {w w1 w2 : World} (h : Fr b o w w1) (hn : Nw o w o1) (k : Fr b o1 w1 w2) : Fr b o w w2 :=
  ⟨k.os.trans h.os, k.tape.trans h.tape, k.output.trans h.output, Nat.le_trans h.size k.size, fun i hi hb ho => by
    rw [k.block i (Nat.lt_of_lt_of_le hi h.size) hb fun e => ?_, h.block i hi hb ho]
    rcases hn with hn | hn
    · rw [hn] at e; exact ho e
    · have := hn i e.symm; omega⟩
theorem Nw.trans {o o1 o2 : Option Nat} {w w1 : World} (h : Nw o w o1) (hs : w.heap.size ≤ w1.heap.size) (k : Nw o1 w1 o2) : Nw o w o2 := by
  rcases k with k | k
  · rw [k]; exact h
  · exact Or.inr fun i hi => Nat.le_trans hs (k i hi)
theorem Ext.fr {w w' : World} (h : Ext w w') (b : Nat) (o : Option Nat) : Fr b o w w' := ⟨h.os, h.tape, h.output, h.size, fun k hk _ _ => h.block k hk⟩
theorem fr_grown {b : Nat} {o : Option Nat} {w w' : World} (h : w.grownBy w' o) : Fr b o w w' := ⟨h.os, h.tape, h.output, h.size, fun k hk _ ho => h.block k hk ho⟩
theorem fr_set (b : Nat) (o : Option Nat) (w : World) (i : Nat) (v : Value) : Fr b o w (w.setCell ⟨b, i, none⟩ v) :=
  ⟨rfl, rfl, rfl, by simp, fun k _ hb _ => Below.heap_setCell _ _ _ _ (fun e => hb e)⟩
theorem Fr.ext {b : Nat} {o : Option Nat} {w0 w w' : World} (h : Fr b o w w') (hE : Ext w0 w) (hb : w0.heap.size ≤ b) (ho : ∀ k, o = some k → w0.heap.size ≤ k) : Ext w0 w' := by
  have hs := hE.size
  refine ⟨h.os.trans hE.os, h.tape.trans hE.tape, h.output.trans hE.output, Nat.le_trans hs h.size, fun k hk => ?_⟩
  rw [h.block k (Nat.lt_of_lt_of_le hk hs) (by omega) fun e => by have := ho k e.symm; omega]
  exact hE.block k hk
theorem Fr.blk {b : Nat} {o : Option Nat} {w w' : World} (h : Fr b o w w') {c : Nat} {T : TypeId} {cs : Array Value} (hB : Blk w c T cs) (hc : c ≠ b) (ho : o ≠ some c) : Blk w' c T cs := by
  unfold Blk; rw [h.block c hB.lt hc fun e => ho e.symm]; exact hB
theorem Fr.own {b : Nat} {o : Option Nat} {w w' : World} (h : Fr b o w w') {TI : TypeId} {w0 : World} {v : Value} {l : List Int} (hO : Own TI w0 w v l) (h1 : v.ownBlock ≠ some b) (h2 : v.ownBlock = none ∨ v.ownBlock ≠ o) : Own TI w0 w' v l := by
  obtain ⟨⟨hl, hr⟩, hn⟩ := hO
  refine ⟨⟨hl, ?_⟩, hn⟩
  rcases hr with hr | ⟨g, cap, cur, rfl, hg, hh, rest⟩
  · exact Or.inl hr
  · refine Or.inr ⟨g, cap, cur, rfl, hg, ?_, rest⟩
    simp [Value.ownBlock] at h1 h2
    rw [h.block g (Array.getElem?_eq_some_iff.1 hh).1 h1 h2]; exact hh
theorem run_append1F {P : Program} {T TI : TypeId} (hT : IntSl P T TI) (ty : TypeId) (w0 w : World) (v : Value) (l : List Int) (y : Int) (ad : Addr) (hO : Own TI w0 w v l) (hE : Ext w0 w) (hy : ∀ j u, [Value.int .i64 y][j]? = some u → w.cell? (ad.add j) = some u) (hn : l.length < 17592186044416) :
    ∃ v' w', (Builtin.append_ #[T, T] ty #[v, .slice (some ad) 1 1]).run P w = .ok v' w' ∧ Own TI w0 w' v' (l ++ [y]) ∧ w.grownBy w' v.ownBlock ∧ Nw v.ownBlock w v'.ownBlock := by
  obtain ⟨i, hi, hz, hs1, hby⟩ := hT.info
  have h1 := hO.1
  rcases h1.2 with ⟨rfl, hl⟩ | ⟨g, cap, cur, rfl, hg, hh, hnc, hcm, hcs, htk⟩
  · have hl' : l = [] := List.eq_nil_of_length_eq_zero hl
    subst hl'
    obtain ⟨v', w', hrun, r1, r2, -⟩ := run_append_own (P := P) w w.heap.size T ty TI i (.int .i64 0) 1 8 hT.und hi hz hs1 hby rfl (by omega) (.slice none 0 0) 0 [] (World.ownsRow_nil _ _ _ _) ad 1 1 [.int .i64 y] rfl hy (by simp [Value.oneCell']) (by unfold maxLen; omega) (by omega) (Nat.le_refl _)
    have hO' : Own TI w w' v' [y] := ⟨by simpa using r1, by simp⟩
    exact ⟨v', w', hrun, by simpa using hO'.mono hE, r2, Or.inr fun k hk => (hO'.blk k hk).1⟩
  · by_cases hroom : l.length + 1 ≤ cap
    · obtain ⟨w', hrun, r1, r2⟩ := run_append_fits (P := P) w w0.heap.size T ty TI i 1 hT.und hi hs1 g l.length cap _ h1 ad 1 1 [.int .i64 y] rfl hy (by simp [Value.oneCell']) hroom
      exact ⟨_, w', hrun, ⟨by simpa using r1, by simp; omega⟩, r2, Or.inl rfl⟩
    · obtain ⟨v', w', hrun, r1, r2⟩ := run_append_arg_grows (P := P) (w := w) T ty TI i (.int .i64 0) 1 8 hT.und hi hz hs1 hby rfl (by omega) ⟨g, 0, none⟩ l.length cap (l.map (Value.int .i64)) (by simp) (by
        intro j u hu
        have hj : j < l.length := by have := (List.getElem?_eq_some_iff.1 hu).1; simpa using this
        rw [Addr.add_lit, Nat.zero_add, World.ownsRow.cellAt h1 j (by omega)]
        simpa using hu) ad 1 1 [.int .i64 y] rfl hy (by omega) (by unfold maxLen; omega) (by omega)
      have hO' : Own TI w w' v' (l ++ [y]) := ⟨by simpa using r1, by simp; omega⟩
      exact ⟨v', w', hrun, hO'.mono hE, ⟨r2.os, r2.tape, r2.output, r2.size, fun k hk _ => r2.block k hk (by simp)⟩, Or.inr fun k hk => (hO'.blk k hk).1⟩
section
variable {P : Program} {ops : Array Oper} {rest : List Oper} {o : Oper} {a : Act} {Q : Exit → Act → World → Prop} {T TI : TypeId}
/-- append(s, y), with the row that it writes -/
theorem wp_append1F (hT : IntSl P T TI) (hg : o.guard = none) (s x : Operand) (hop : o.op = Op.call { callee := Callee.builtin Builtin.append, args := #[s, x], argTypes := #[T, T] })
    (w0 W : World) (v : Value) (l : List Int) (y : Int) (hO : Own TI w0 W v l) (hE : Ext w0 W) (hn : l.length < 17592186044416) (hs : a.eval s = v) (hx : a.eval x = .slice (some ⟨W.heap.size, 0, none⟩) 1 1)
    (hK : ∀ v' w', Own TI w0 w' v' (l ++ [y]) → W.grownBy w' v.ownBlock → Nw v.ownBlock W v'.ownBlock → wpList P ops Q rest (a.put o.dst v') w') :
    wpList P ops Q (o :: rest) a (W.alloc (.cells #[.int .i64 y] TI)) := by
  obtain ⟨v', w', hrun, h1, h2, h3⟩ := run_append1F hT o.type w0 (W.alloc (.cells #[.int .i64 y] TI)) v l y ⟨W.heap.size, 0, none⟩ (hO.alloc _) (hE.alloc _) (cell_one_new _ _ _) hn
  refine wpList_plain hg fun K hK' => ?_
  unfold Oper.wp
  simp [execOp, hop, resolve, invoke, builtin, hs, hx, hrun, Result.andThen]
  have e : Ext W (W.alloc (.cells #[.int .i64 y] TI)) := (Ext.refl W).alloc _
  refine hK' _ _ (hK v' w' h1 ⟨h2.os.trans e.os, h2.tape.trans e.tape, h2.output.trans e.output, Nat.le_trans e.size h2.size, fun k hk hne => ?_⟩ ?_)
  · rw [h2.block k (Nat.lt_of_lt_of_le hk e.size) hne]; exact e.block k hk
  · rcases h3 with h3 | h3
    · exact Or.inl h3
    · exact Or.inr fun k hk => Nat.le_trans e.size (h3 k hk)
end
end Go.Zz

/- Negatives of elements and of sets; differences of sets. -/
namespace Go.Zz
open Go.RowKit Go.Proofs
set_option maxHeartbeats 400000

theorem neg_val {x q s u : Nat} (hs : s < 24) (hq : 2 ≤ q) (hm : ((q - x % q) % q) * u ≤ 331776) :
    Value.int .i64 (wrap64 ((s : Int) + wrap64 ((((q : Int) - (x : Int) % (q : Int)) % (q : Int)) * (u : Int)))) = .int .i64 ((s + ((q - x % q) % q) * u : Nat) : Int) := by
  have h1 := Nat.mod_lt x (show 0 < q by omega)
  have e1 : (q : Int) - (x : Int) % (q : Int) = ((q - x % q : Nat) : Int) := by rw [← Int.natCast_emod]; omega
  have e2 : (((q - x % q : Nat) : Int) % (q : Int)) * (u : Int) = ((((q - x % q) % q) * u : Nat) : Int) := by rw [Int.natCast_mul, Int.natCast_emod]
  rw [e1, e2]
  generalize ((q - x % q) % q) * u = d at hm ⊢
  rw [wrapN d (by omega), ← Int.natCast_add, wrapN (s + d) (by omega)]
--%call negate 149 ext negate_any _ _ _ _ ({0}) ({1}) ({2})
theorem negate_any (v : Value) (l : List Int) (x : Nat) (w : World) (h : Ints w v l) (Hgr : Hid (isGrp l = true)) (hx : x < 16777216) :
    Calls Try.prog 149 #[.agg #[v], .int .i64 x] w fun e w' => e = .returned (.int .i64 (negF l x)) ∧ Ext w w' := by
  obtain ⟨ao, c, adr, rfl, hlen, hadr, hcell⟩ := h.op
  have hix := ints_index (c := c) elI szI hadr
  clear hadr h
  obtain ⟨wb, hwb⟩ : ∃ wb, wb = w.alloc (.cells #[.slice ao l.length c] 26) := ⟨_, rfl⟩
  have hE0 := (Ext.refl w).alloc (.cells #[.slice ao l.length c] 26)
  have hb := box_cell w (.slice ao l.length c) 26
  rw [← hwb] at hE0 hb
  have hE := Ext.refl wb
  have Hwb := Lib.hid hwb
  have hA := negF_bd Hgr.out x
  have h3 := isGrp_len Hgr.out
  clear hwb
  go_enter Try.func149, Try.ntmps149
  go_wp2_with fail
  rw [← Hwb.out]
  go_loopw [1, 5, 6, 12] (fun xv sv uv i wr => ∃ k x' s u : Nat, k ≤ l.length ∧ x' ≤ x ∧ s + u * negF (l.drop k) x' = negF l x ∧ (u : Int) = prodL (l.take k) ∧ xv = .int .i64 x' ∧ sv = .int .i64 s ∧ uv = .int .i64 u ∧ i = .int .i64 k ∧ Ext wb wr) (fun _ _ _ i _ => l.length - (intOf i).toNat)
  case atStart => exact ⟨0, x, 0, 1, by omega, by omega, by simp, by simp [prodL], rfl, rfl, rfl, rfl, hE⟩
  case round =>
    clear hE
    obtain ⟨k, x', s, u, hk, hx', hs, hu, rfl, rfl, rfl, rfl, hE⟩ := hrel
    have hbx := hb wr hE
    have hsb := add_inv hs hA
    obtain ⟨hu1, hu2⟩ := prodL_bd3 k l hk (by omega) (fun j hj => isGrp_nth Hgr.out (by omega))
    rw [← hu] at hu1 hu2
    have Hs := Lib.hid hs
    have Hu := Lib.hid hu
    clear hs hu hA
    by_cases hlt : k < l.length
    · have hck := hcell k _ hlt (hE0.trans hE)
      obtain ⟨hq1, hq2⟩ := isGrp_nth Hgr.out hlt
      obtain ⟨q, hq⟩ := Int.eq_ofNat_of_zero_le (show 0 ≤ nth l k by omega)
      have Hst := Lib.hid (negF_step hlt hq x')
      have Hu2 : Hid (nth l k * prodL (l.take k) = prodL (l.take (k + 1))) := Lib.hid (by rw [prodL_take l k hlt, Int.mul_comm])
      rw [hq] at hq1 hq2
      have Hq := Lib.hid hq
      have hd : (q - x' % q) % q < 24 := Nat.lt_of_lt_of_le (Nat.mod_lt _ (by omega)) (by omega)
      have hm1 : ((q - x' % q) % q) * u ≤ 24 * 13824 := Nat.mul_le_mul (by omega) (by omega)
      have hm2 : u * q ≤ 13824 * 24 := Nat.mul_le_mul (by omega) (by omega)
      have h1 := Nat.mod_lt x' (show 0 < q by omega)
      have c1 : (q : Int) - (x' : Int) % (q : Int) = ((q - x' % q : Nat) : Int) := by rw [← Int.natCast_emod]; omega
      have c2 : (((q : Int) - (x' : Int) % (q : Int)) % (q : Int)) * (u : Int) = ((((q - x' % q) % q) * u : Nat) : Int) := by rw [c1, Int.natCast_mul, Int.natCast_emod]
      have c3 : ((u * q : Nat) : Int) = (u : Int) * (q : Int) := Int.natCast_mul _ _
      have b1 : (x' : Int) % (q : Int) < 24 := by have := Int.emod_lt_of_pos (x' : Int) (show (0:Int) < q by omega); omega
      have b3 : 0 ≤ (x' : Int) % (q : Int) := Int.emod_nonneg _ (by omega)
      have b2 : 0 ≤ (q : Int) - (x' : Int) % (q : Int) := by have := Int.emod_lt_of_pos (x' : Int) (show (0:Int) < q by omega); omega
      have b5 : (((q : Int) - (x' : Int) % (q : Int)) % (q : Int)) * (u : Int) ≤ 331776 := by rw [c2]; omega
      have b6 : 0 ≤ (((q : Int) - (x' : Int) % (q : Int)) % (q : Int)) * (u : Int) := by rw [c2]; omega
      have b7 : (u : Int) * (q : Int) ≤ 331776 := by rw [← c3]; omega
      have b8 : 0 ≤ (u : Int) * (q : Int) := by rw [← c3]; omega
      have Hm1 := Lib.hid hm1
      clear c1 c2 c3 hd hm1 hm2 h1
      go_wp2_with fail
      skip
      go_roundw
      case rel =>
        refine ⟨k + 1, x' / q, s + ((q - x' % q) % q) * u, u * q, by omega, Nat.le_trans (Nat.div_le_self _ _) hx', ?_, ?_, ?_, ?_, ?_, by go_num, hE⟩
        · apply add_next
          rw [← Hst.out]; exact Hs.out
        · rw [← Hu2.out, ← Hu.out, Hq.out]; push_cast; rw [Int.mul_comm]
        · exact div_val (Nat.le_trans hx' (Nat.le_of_lt hx))
        · first | exact neg_val hsb (by omega) Hm1.out | (rw [show (-((x' : Int) % (q : Int))) % (q : Int) = ((q : Int) - (x' : Int) % (q : Int)) % (q : Int) from by simp]; exact neg_val hsb (by omega) Hm1.out)
        · exact mul_val u q
      case measure => (simp [intOf]; omega)
    · have hkl : k = l.length := by omega
      subst hkl
      go_wp2_with fail
      go_ret
      exact ⟨ret_int (by have := Hs.out; rw [List.drop_length] at this; simp [negF] at this; omega), hE0.trans hE⟩
--%call l2Negate 177 ext l2Negate_any _ _ _ _ ({0}) ({1}) ({2})
theorem l2Negate_any (v : Value) (l : List Int) (x : Nat) (w : World) (h : Ints w v l) (Hgr : Hid (isGrp l = true)) (hx : x < 16777216) :
    Calls Try.prog 177 #[.agg #[v], .int .i64 x] w fun e w' => e = .returned (.int .i64 (negF l x)) ∧ Ext w w' := by
  obtain ⟨ao, c, adr, rfl, hlen, hadr, hcell⟩ := h.op
  have hix := ints_index (c := c) elI szI hadr
  clear hadr h
  obtain ⟨wb, hwb⟩ : ∃ wb, wb = w.alloc (.cells #[.slice ao l.length c] 26) := ⟨_, rfl⟩
  have hE0 := (Ext.refl w).alloc (.cells #[.slice ao l.length c] 26)
  have hb := box_cell w (.slice ao l.length c) 26
  rw [← hwb] at hE0 hb
  have hE := Ext.refl wb
  have Hwb := Lib.hid hwb
  have hA := negF_bd Hgr.out x
  have h3 := isGrp_len Hgr.out
  clear hwb
  go_enter Try.func177, Try.ntmps177
  go_wp2_with fail
  rw [← Hwb.out]
  go_loopw [1, 5, 6, 7] (fun xv sv uv i wr => ∃ k x' s u : Nat, k ≤ l.length ∧ x' ≤ x ∧ s + u * negF (l.drop k) x' = negF l x ∧ (u : Int) = prodL (l.take k) ∧ xv = .int .i64 x' ∧ sv = .int .i64 s ∧ uv = .int .i64 u ∧ i = .int .i64 k ∧ Ext wb wr) (fun _ _ _ i _ => l.length - (intOf i).toNat)
  case atStart => exact ⟨0, x, 0, 1, by omega, by omega, by simp, by simp [prodL], rfl, rfl, rfl, rfl, hE⟩
  case round =>
    clear hE
    obtain ⟨k, x', s, u, hk, hx', hs, hu, rfl, rfl, rfl, rfl, hE⟩ := hrel
    have hbx := hb wr hE
    have hsb := add_inv hs hA
    obtain ⟨hu1, hu2⟩ := prodL_bd3 k l hk (by omega) (fun j hj => isGrp_nth Hgr.out (by omega))
    rw [← hu] at hu1 hu2
    have Hs := Lib.hid hs
    have Hu := Lib.hid hu
    clear hs hu hA
    by_cases hlt : k < l.length
    · have hck := hcell k _ hlt (hE0.trans hE)
      obtain ⟨hq1, hq2⟩ := isGrp_nth Hgr.out hlt
      obtain ⟨q, hq⟩ := Int.eq_ofNat_of_zero_le (show 0 ≤ nth l k by omega)
      have Hst := Lib.hid (negF_step hlt hq x')
      have Hu2 : Hid (nth l k * prodL (l.take k) = prodL (l.take (k + 1))) := Lib.hid (by rw [prodL_take l k hlt, Int.mul_comm])
      rw [hq] at hq1 hq2
      have Hq := Lib.hid hq
      have hd : (q - x' % q) % q < 24 := Nat.lt_of_lt_of_le (Nat.mod_lt _ (by omega)) (by omega)
      have hm1 : ((q - x' % q) % q) * u ≤ 24 * 13824 := Nat.mul_le_mul (by omega) (by omega)
      have hm2 : u * q ≤ 13824 * 24 := Nat.mul_le_mul (by omega) (by omega)
      have h1 := Nat.mod_lt x' (show 0 < q by omega)
      have c1 : (q : Int) - (x' : Int) % (q : Int) = ((q - x' % q : Nat) : Int) := by rw [← Int.natCast_emod]; omega
      have c2 : (((q : Int) - (x' : Int) % (q : Int)) % (q : Int)) * (u : Int) = ((((q - x' % q) % q) * u : Nat) : Int) := by rw [c1, Int.natCast_mul, Int.natCast_emod]
      have c3 : ((u * q : Nat) : Int) = (u : Int) * (q : Int) := Int.natCast_mul _ _
      have b1 : (x' : Int) % (q : Int) < 24 := by have := Int.emod_lt_of_pos (x' : Int) (show (0:Int) < q by omega); omega
      have b3 : 0 ≤ (x' : Int) % (q : Int) := Int.emod_nonneg _ (by omega)
      have b2 : 0 ≤ (q : Int) - (x' : Int) % (q : Int) := by have := Int.emod_lt_of_pos (x' : Int) (show (0:Int) < q by omega); omega
      have b5 : (((q : Int) - (x' : Int) % (q : Int)) % (q : Int)) * (u : Int) ≤ 331776 := by rw [c2]; omega
      have b6 : 0 ≤ (((q : Int) - (x' : Int) % (q : Int)) % (q : Int)) * (u : Int) := by rw [c2]; omega
      have b7 : (u : Int) * (q : Int) ≤ 331776 := by rw [← c3]; omega
      have b8 : 0 ≤ (u : Int) * (q : Int) := by rw [← c3]; omega
      have Hm1 := Lib.hid hm1
      clear c1 c2 c3 hd hm1 hm2 h1
      go_wp2_with fail
      skip
      go_roundw
      case rel =>
        refine ⟨k + 1, x' / q, s + ((q - x' % q) % q) * u, u * q, by omega, Nat.le_trans (Nat.div_le_self _ _) hx', ?_, ?_, ?_, ?_, ?_, by go_num, hE⟩
        · apply add_next
          rw [← Hst.out]; exact Hs.out
        · rw [← Hu2.out, ← Hu.out, Hq.out]; push_cast; rw [Int.mul_comm]
        · exact div_val (Nat.le_trans hx' (Nat.le_of_lt hx))
        · first | exact neg_val hsb (by omega) Hm1.out | (rw [show (-((x' : Int) % (q : Int))) % (q : Int) = ((q : Int) - (x' : Int) % (q : Int)) % (q : Int) from by simp]; exact neg_val hsb (by omega) Hm1.out)
        · exact mul_val u q
      case measure => (simp [intOf]; omega)
    · have hkl : k = l.length := by omega
      subst hkl
      go_wp2_with fail
      go_ret
      exact ⟨ret_int (by have := Hs.out; rw [List.drop_length] at this; simp [negF] at this; omega), hE0.trans hE⟩

--%call opposite 93 ext opposite_any _ _ _ _ ({0}) ({1}) ({2})
theorem opposite_any (v : Value) (l : List Int) (a : Nat) (w : World) (h : Ints w v l) (Hgr : Hid (isGrp l = true)) (ha : a < 2 ^ 24) :
    Calls Try.prog 93 #[.agg #[v], .int .i64 a] w fun e w' => e = .returned (.int .i64 (oppF l a)) ∧ Ext w w' := by
  obtain ⟨wb, hwb⟩ : ∃ wb, wb = w.alloc (.cells #[v] 26) := ⟨_, rfl⟩
  have hE0 := (Ext.refl w).alloc (.cells #[v] 26)
  have hb := box_cell w v 26
  rw [← hwb] at hE0 hb
  have hg : ∀ W, Ext wb W → Ints W v l := fun W hW => h.ext (hE0.trans hW)
  have hE := Ext.refl wb
  have Hsz : Hid (w.heap.size + 1 = wb.heap.size) := Lib.hid (by rw [hwb]; simp [go_sem])
  have Hwb := Lib.hid hwb
  clear hwb h
  go_enter Try.func93, Try.ntmps93
  go_wp2_with fail
  rw [← Hwb.out]
  go_wp2_with (first | (go_at_call 139; refine (members_any _ (ha) _).mono ?_; rintro e w1 ⟨v1, rfl, hL, hE1⟩; obtain ⟨aoL, cL, adrL, rfl, hadrL, hcellL⟩ := hL.ints.nats; have hixL := ints_index (c := cL) elI szI hadrL; clear hadrL))
  have hb1 : ∀ W, Ext w1 W → W.cell? ⟨w.heap.size, 0, none⟩ = some v := fun W hW => hb W (hE1.trans hW)
  have hg1 : ∀ W, Ext w1 W → Ints W v l := fun W hW => hg W (hE1.trans hW)
  replace hE := Ext.refl w1
  clear hb hg hL
  have hall : ∀ y ∈ elems a, y < 24 := fun y hy => elems_lt hy
  have hlen := elems_len a
  have Hd := Lib.hid (oppL_all l a)
  generalize elems a = L at hcellL hixL hall hlen Hd ⊢
  go_loopw [5, 11] (fun ov i wr => ∃ k : Nat, k ≤ L.length ∧ i = .int .i64 k ∧ ov = .int .i64 ((oppL l (L.take k) : Nat) : Int) ∧ Ext w1 wr) (fun _ i _ => L.length - (intOf i).toNat)
  case atStart => exact ⟨0, by omega, rfl, by simp [oppL, bset], hE⟩
  case round =>
    clear hE
    obtain ⟨k, hk, rfl, rfl, hE⟩ := hrel
    by_cases hlt : k < L.length
    · have hck := hcellL k _ hlt hE
      have hbx := hb1 _ hE
      have hby := hall _ (nthN_mem hlt)
      have Ht := Lib.hid (oppL_snoc l (L.take k) (nthN L k))
      have Ht2 := Lib.hid (take_nthN L k hlt)
      have hz := negF_bd Hgr.out (nthN L k)
      have hs1 := ishl_one (n := negF l (nthN L k)) (by omega)
      have hs2 := ior_pw (oppL_bd Hgr.out (L.take k)) hz
      go_wp2_with (first | (go_at_call 149; refine (negate_any _ _ _ _ (hg1 _ hE) (Hgr) ((by omega))).mono ?_; rintro e w' ⟨rfl, hE'⟩; replace hE := hE.trans hE'; clear hE'))
      go_roundw
      case rel => exact ⟨k + 1, by omega, by go_num, by rw [Ht2.out, Ht.out], hE⟩
      case measure => (simp [intOf]; omega)
    · have hkl : k = L.length := by omega
      subst hkl
      go_wp2_with fail
      go_ret
      exact ⟨ret_int (by rw [List.take_length, Hd.out]), hE0.trans (hE1.trans hE)⟩

end Go.Zz

/- Generated subgroups, hulls, covers. -/
namespace Go.Zz
open Go.RowKit Go.Proofs
set_option maxHeartbeats 400000

--%call generated 170 ext generated_any _ _ _ _ ({0}) ({1}) ({2})
theorem generated_any (v : Value) (l : List Int) (a : Nat) (w : World) (h : Ints w v l) (Hgr : Hid (isGrp l = true)) (ha : a < 2 ^ 24) :
    Calls Try.prog 170 #[.agg #[v], .int .i64 a] w fun e w' => e = .returned (.int .i64 (genF l a)) ∧ Ext w w' := by
  obtain ⟨wb, hwb⟩ : ∃ wb, wb = w.alloc (.cells #[v] 26) := ⟨_, rfl⟩
  have hE0 := (Ext.refl w).alloc (.cells #[v] 26)
  have hb := box_cell w v 26
  rw [← hwb] at hE0 hb
  have hg : ∀ W, Ext wb W → Ints W v l := fun W hW => h.ext (hE0.trans hW)
  have hE := Ext.refl wb
  have Hsz : Hid (w.heap.size + 1 = wb.heap.size) := Lib.hid (by rw [hwb]; simp [go_sem])
  have Hwb := Lib.hid hwb
  clear hwb h
  have hgb := genF_bd Hgr.out a
  have ho := oppF_bd Hgr.out a
  have Hone := Lib.hid (genF_one l a)
  go_enter Try.func170, Try.ntmps170
  go_wp2_with fail
  rw [← Hwb.out]
  go_loopw [5] (fun hv wr => ∃ h : Nat, Sub 1 h ∧ Sub h (genF l a) ∧ hv = .int .i64 h ∧ Ext wb wr) (fun hv _ => 16777216 - (intOf hv).toNat)
  case atStart => exact ⟨1, Sub.refl 1, Hone.out, rfl, hE⟩
  case round =>
    clear hE
    obtain ⟨h, h1, h2, rfl, hE⟩ := hrel
    have hbx := fun U => hb _ (lat_ext wb U)
    have hh := sub_bd hgb h2
    have hs1 := sumF_bd Hgr.out h a
    have hs2 := sumF_bd Hgr.out h (oppF l a)
    have i1 := ior_nat (a := h) (b := sumF l h a) (by omega) (by omega)
    have ho1 : h ||| sumF l h a < 2 ^ 24 := Nat.or_lt_two_pow hh hs1
    have i2 := ior_nat (a := h ||| sumF l h a) (b := sumF l h (oppF l a)) (by omega) (by omega)
    have hN2 := grow2_sub Hgr.out h2
    have hN1 := grow2_le l a h
    have hend := grow2_end h1 h2
    have hNb := sub_bd hgb hN2
    rw [show h ||| sumF l h a ||| sumF l h (oppF l a) = grow2 l a h from rfl] at i2
    generalize grow2 l a h = N at i2 hN2 hN1 hend hNb
    have H1 := Lib.hid h1
    have H2 := Lib.hid h2
    have HN1 := Lib.hid hN1
    have HN2 := Lib.hid hN2
    have He := Lib.hid hend
    clear h1 h2 hN1 hN2 hend
    by_cases hq : N = h
    · have hq' : ((N : Int) == (h : Int)) = true := by simp [hq]
      have Hq := Lib.hid hq
      clear hq
      go_wp2_with fail
      (refine wp_region_lat (wb) (by kernel_rfl) (by kernel_rfl) hE ?_); (repeat (go_big_quiet_step (first | (go_at_call 72; exact Calls.lat (sum_any _ _ _ _ _ (hg _ (lat_ext wb _)) (Hgr) (hh) (ha))) | (go_at_call 72; exact Calls.lat (sum_any _ _ _ _ _ (hg _ (lat_ext wb _)) (Hgr) (hh) (ho))) | (go_at_call 93; exact Calls.lat (opposite_any _ _ _ _ (hg _ (lat_ext wb _)) (Hgr) (ha)))))); (refine wpQuiet_nil ?_); (intro W hE'); (replace hE := lat_of hE'); (clear hE')
      go_wp2_with fail
      go_ret
      exact ⟨ret_int (by rw [← He.out Hq.out]), hE0.trans hE⟩
    · have hq' : ((N : Int) == (h : Int)) = false := by simp; omega
      have Hlt := Lib.hid (sub_lt hNb HN1.out (fun e => hq e.symm)).1
      clear hq
      go_wp2_with fail
      (refine wp_region_lat (wb) (by kernel_rfl) (by kernel_rfl) hE ?_); (repeat (go_big_quiet_step (first | (go_at_call 72; exact Calls.lat (sum_any _ _ _ _ _ (hg _ (lat_ext wb _)) (Hgr) (hh) (ha))) | (go_at_call 72; exact Calls.lat (sum_any _ _ _ _ _ (hg _ (lat_ext wb _)) (Hgr) (hh) (ho))) | (go_at_call 93; exact Calls.lat (opposite_any _ _ _ _ (hg _ (lat_ext wb _)) (Hgr) (ha)))))); (refine wpQuiet_nil ?_); (intro W hE'); (replace hE := lat_of hE'); (clear hE')
      go_wp2_with fail
      go_roundw
      case rel => exact ⟨N, H1.out.trans HN1.out, HN2.out, rfl, hE⟩
      case measure => (simp [intOf]; have := Hlt.out; omega)
--%call l5Closure 167 ext l5Closure_any _ _ _ _ ({0}) ({1}) ({2})
theorem l5Closure_any (v : Value) (l : List Int) (a : Nat) (w : World) (h : Ints w v l) (Hgr : Hid (isGrp l = true)) (ha : a < 2 ^ 24) :
    Calls Try.prog 167 #[.agg #[v], .int .i64 a] w fun e w' => e = .returned (.int .i64 (genF l a)) ∧ Ext w w' := by
  obtain ⟨wb, hwb⟩ : ∃ wb, wb = w.alloc (.cells #[v] 26) := ⟨_, rfl⟩
  have hE0 := (Ext.refl w).alloc (.cells #[v] 26)
  have hb := box_cell w v 26
  rw [← hwb] at hE0 hb
  have hg : ∀ W, Ext wb W → Ints W v l := fun W hW => h.ext (hE0.trans hW)
  have hE := Ext.refl wb
  have Hsz : Hid (w.heap.size + 1 = wb.heap.size) := Lib.hid (by rw [hwb]; simp [go_sem])
  have Hwb := Lib.hid hwb
  clear hwb h
  have hbx := hb wb hE
  have hgb := genF_bd Hgr.out a
  have Hone := Lib.hid (genF_one l a)
  have h1b : (1 : Nat) < 2 ^ 24 := by omega
  have hs1 := sumF_bd Hgr.out 1 a
  have i1 := ior_nat (a := 1) (b := sumF l 1 a) (by omega) (by omega)
  go_enter Try.func167, Try.ntmps167
  go_wp2_with fail
  rw [← Hwb.out]
  go_wp2_with (first | (go_at_call 74; refine (l4Sum_any _ _ _ _ _ (hg _ hE) (Hgr) (h1b) (ha)).mono ?_; rintro e w' ⟨rfl, hE'⟩; replace hE := hE.trans hE'; clear hE'))
  clear hbx hs1
  go_loopw [5, 6] (fun hv nv wr => ∃ h : Nat, Sub 1 h ∧ Sub h (genF l a) ∧ hv = .int .i64 h ∧ nv = .int .i64 (grow l a h : Nat) ∧ Ext wb wr) (fun hv _ _ => 16777216 - (intOf hv).toNat)
  case atStart => exact ⟨1, Sub.refl 1, Hone.out, rfl, by unfold grow; rw [← i1]; rfl, hE⟩
  case round =>
    clear hE i1
    obtain ⟨h, h1, h2, rfl, rfl, hE⟩ := hrel
    have hbx := hb _ hE
    have hh := sub_bd hgb h2
    have hN2 := grow_sub Hgr.out h2
    have hN1 : Sub h (grow l a h) := Sub.or_left _ _
    have hend := grow_end h1 h2
    have hNb := sub_bd hgb hN2
    generalize grow l a h = N at hN2 hN1 hend hNb ⊢
    have hs1 := sumF_bd Hgr.out N a
    have i1 := ior_nat (a := N) (b := sumF l N a) (by omega) (by omega)
    have Hi : Hid (N ||| sumF l N a = grow l a N) := Lib.hid rfl
    have H1 := Lib.hid h1
    have H2 := Lib.hid h2
    have HN1 := Lib.hid hN1
    have HN2 := Lib.hid hN2
    have He := Lib.hid hend
    clear h1 h2 hN1 hN2 hend
    by_cases hq : N = h
    · have hq' : ((N : Int) != (h : Int)) = false := by simp [hq]
      have Hq := Lib.hid hq
      clear hq
      go_wp2_with fail
      go_ret
      exact ⟨ret_int (by rw [← He.out Hq.out]), hE0.trans hE⟩
    · have hq' : ((N : Int) != (h : Int)) = true := by simp; omega
      have Hlt := Lib.hid (sub_lt hNb HN1.out (fun e => hq e.symm)).1
      clear hq
      go_wp2_with (first | (go_at_call 74; refine (l4Sum_any _ _ _ _ _ (hg _ hE) (Hgr) (hNb) (ha)).mono ?_; rintro e w' ⟨rfl, hE'⟩; replace hE := hE.trans hE'; clear hE'))
      go_roundw
      case rel => exact ⟨N, H1.out.trans HN1.out, HN2.out, rfl, by rw [Hi.out], hE⟩
      case measure => (simp [intOf]; have := Hlt.out; omega)

--%call AffineHull 181 ext AffineHull_any _ _ _ _ ({0})
theorem AffineHull_any (v : Value) (l : List Int) (a : Int) (w : World) (h : Ints w v l) :
    Calls Try.prog 181 #[.agg #[v], .int .i64 a] w fun e w' => e = .returned (.int .i64 (hullF l a)) ∧ Ext w w' := by
  obtain ⟨wb, hwb⟩ : ∃ wb, wb = w.alloc (.cells #[v] 26) := ⟨_, rfl⟩
  have hE0 := (Ext.refl w).alloc (.cells #[v] 26)
  have hb := box_cell w v 26
  rw [← hwb] at hE0 hb
  have hg : ∀ W, Ext wb W → Ints W v l := fun W hW => h.ext (hE0.trans hW)
  have hE := Ext.refl wb
  have Hsz : Hid (w.heap.size + 1 = wb.heap.size) := Lib.hid (by rw [hwb]; simp [go_sem])
  have Hwb := Lib.hid hwb
  clear hwb h
  have hbx := hb wb hE
  cases hs : isSetB l a
  · have Hs := Lib.hid (hullF_no (isOneB_no hs))
    go_enter Try.func181, Try.ntmps181
    go_wp2_with fail
    rw [← Hwb.out]
    go_wp2_with (first | (go_at_call 66; refine (IsSet_any _ _ _ _ (hg _ hE)).mono ?_; rintro e w' ⟨rfl, hE'⟩; replace hE := hE.trans hE'; clear hE'))
    go_ret
    exact ⟨ret_int Hs.out.symm, hE0.trans hE⟩
  · obtain ⟨n, rfl, h1, h2, hgr⟩ := isSetB_nat hs
    by_cases h0 : n = 0
    · subst h0
      have Hs := Lib.hid (hullF_no (isOneB_zero l))
      go_enter Try.func181, Try.ntmps181
      go_wp2_with fail
      rw [← Hwb.out]
      go_wp2_with (first | (go_at_call 66; refine (IsSet_any _ _ _ _ (hg _ hE)).mono ?_; rintro e w' ⟨rfl, hE'⟩; replace hE := hE.trans hE'; clear hE'))
      go_ret
      exact ⟨ret_int (by have := Hs.out; simp_all), hE0.trans hE⟩
    · have Hs := Lib.hid (hullF_yes (isOneB_yes hs (by omega)))
      obtain ⟨l1, l2, l3, l4⟩ := lowN_first h0 h2
      have h0' : ((n : Int) == 0) = false := by simp; omega
      have Hgr := Lib.hid hgr
      have hn := negF_bd hgr (lowN n)
      have hs1 := shiftF_bd hgr n (negF l (lowN n))
      have hs2 := genF_bd hgr (shiftF l n (negF l (lowN n)))
      clear hgr h0
      go_enter Try.func181, Try.ntmps181
      go_wp2_with fail
      rw [← Hwb.out]
      go_wp2_with (first | (go_at_call 66; refine (IsSet_any _ _ _ _ (hg _ hE)).mono ?_; rintro e w' ⟨rfl, hE'⟩; replace hE := hE.trans hE'; clear hE') | (go_at_call 139; refine (members_any n h2 _).mono ?_; rintro e w1 ⟨v1, rfl, hL, hE1⟩; replace hE := hE.trans hE1; obtain ⟨aoL, cL, adrL, rfl, hadrL, hcellL⟩ := hL.ints.nats; have hixL := ints_index (c := cL) elI szI hadrL; clear hadrL; have hck := hcellL 0 _ l2 (Ext.refl _); rw [l1] at hck; have hix0 : ∀ W, (Instr.indexAt 24 (.slice aoL (elems n).length cL) (.int .i64 0)).run Try.prog W = .ok (.pointer (some (adrL 0))) W := fun W => hixL 0 W l2))
      replace hbx := fun U => hb _ (lat_ext wb U)
      (refine wp_region_lat (wb) (by kernel_rfl) (by kernel_rfl) hE ?_); (repeat (go_big_quiet_step (first | (go_at_call 149; exact Calls.lat (negate_any _ _ _ _ (hg _ (lat_ext wb _)) (Hgr) ((by omega)))) | (go_at_call 87; exact Calls.lat (shift_any _ _ _ _ _ (hg _ (lat_ext wb _)) (Hgr) (h2) (hn))) | (go_at_call 87; exact Calls.lat (shift_any _ _ _ _ _ (hg _ (lat_ext wb _)) (Hgr) (hs2) (l4))) | (go_at_call 170; exact Calls.lat (generated_any _ _ _ _ (hg _ (lat_ext wb _)) (Hgr) (hs1)))))); (refine wpQuiet_nil ?_); (intro W hE'); (replace hE := lat_of hE'); (clear hE')
      go_wp2_with fail
      go_ret
      exact ⟨ret_int (by rw [Hs.out]; rfl), hE0.trans hE⟩
--%call l5Low 178 same l5Low_any _ ({0}) ({1}) _
theorem l5Low_any (a : Nat) (h0 : a ≠ 0) (ha : a < 2 ^ 24) (w : World) :
    Calls Try.prog 178 #[.int .i64 a] w fun e w' => e = .returned (.int .i64 (lowN a : Int)) ∧ w = w' := by
  obtain ⟨-, -, l3, l4⟩ := lowN_first h0 ha
  have L3 := Lib.hid l3
  clear l3
  go_enter Try.func178, Try.ntmps178
  go_wp2_with fail
  go_loop [3] (fun i => ∃ k : Nat, k ≤ lowN a ∧ (∀ j, j < k → a.testBit j = false) ∧ i = .int .i64 k) (fun i => 24 - (intOf i).toNat)
  case atStart => exact ⟨0, by omega, by omega, rfl⟩
  case round =>
    obtain ⟨k, hk, hall, rfl⟩ := hrel
    have Hall := Lib.hid hall
    clear hall
    have hsh := ishr_nat (a := a) (n := k) (by omega)
    have hle := shr_le a k
    cases hb : a.testBit k
    · have hm : shr a k % 2 = 0 := by
        rw [Nat.testBit_eq_decide_div_mod_eq, ← Nat.shiftRight_eq_div_pow] at hb
        have := of_decide_eq_false hb
        unfold shr; omega
      have hand : iand ((shr a k : Nat) : Int) 1 = 0 := by rw [iand_one (by omega), hm]; rfl
      have hne : k ≠ lowN a := by intro e; have := L3.out; rw [← e, hb] at this; cases this
      have Hb := Lib.hid hb
      clear hb hm
      go_wp2_with fail
      go_round
      case rel => exact ⟨k + 1, by omega, fun j hj => by by_cases e : j = k; (subst e; exact Hb.out); exact Hall.out j (by omega), by go_num⟩
      case measure => (simp [intOf]; omega)
    · have hm : shr a k % 2 = 1 := by
        rw [Nat.testBit_eq_decide_div_mod_eq, ← Nat.shiftRight_eq_div_pow] at hb
        exact of_decide_eq_true hb
      have hand : iand ((shr a k : Nat) : Int) 1 = 1 := by rw [iand_one (by omega), hm]; rfl
      have He := Lib.hid (lowN_at (by omega) Hall.out hb)
      clear hb hm
      go_wp2_with fail
      go_ret
      exact ⟨ret_int (by rw [He.out]), rfl⟩
end Go.Zz
