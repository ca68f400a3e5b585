/- Slices of slices that a call makes: their length alone is told. -/
import Derived.Test.YtpjpfpmapdjnaaaGr10
import Derived.Test.YtpjpfpmapdjnaaaGr12
import Derived.Laws.OwnMore
import Derived.Test.YtpjpfpmapdjnaaaGr9
import Derived.Test.YtpjpfpmapdjnaaaGr6
import Derived.Deep.RegionHeld3
import Derived.Deep.RegionWith
namespace Go.Zz
open Go.RowKit Go.Proofs
set_option maxHeartbeats 1000000

theorem infoV : (Try.prog.info? 22).map (fun i => (i.zero, i.size, i.bytes)) = some (some (.slice none 0 0), 1, 24) := by kernel_rfl
theorem undV : Try.prog.underlying 48 = some (.slice 22) := by kernel_rfl
theorem elV : Try.prog.underlying 48 = some (.slice (Try.prog.elem 48)) := by kernel_rfl
theorem szV : ∀ w, (Go.sizeOf (Try.prog.elem 48)).run Try.prog w = .ok 1 w := fun w => by kernel_rfl
/-- v is a slice of n slices of the call's own -/
def OwnV (w0 w : World) (v : Value) (n : Nat) : Prop :=
  ∃ L : List Value, L.length = n ∧ (∀ u ∈ L, u.oneCell' = true) ∧ w.ownsRow w0.heap.size 22 1 v n L ∧ n ≤ 1000000
theorem OwnV.blk {w0 w : World} {v : Value} {n : Nat} (h : OwnV w0 w v n) : ∀ k, v.ownBlock = some k → w0.heap.size ≤ k ∧ k < w.heap.size := by
  obtain ⟨L, -, -, h, -⟩ := h; exact h.lt
theorem OwnV.ext {w0 w w' : World} {v : Value} {n : Nat} (h : OwnV w0 w v n) (hE : Ext w w') : OwnV w0 w' v n := by
  obtain ⟨L, h1, h2, h3, h4⟩ := h
  refine ⟨L, h1, h2, h3.kept (row := none) ⟨hE.os, hE.tape, hE.output, hE.size, fun k hk _ => hE.block k hk⟩ ?_, h4⟩
  cases hv : v.ownBlock <;> simp
theorem OwnV.mono {w0 w1 w : World} {v : Value} {n : Nat} (h : OwnV w1 w v n) (hE : Ext w0 w1) : OwnV w0 w v n := by
  obtain ⟨L, h1, h2, h3, h4⟩ := h
  exact ⟨L, h1, h2, ownsRow_mono h3 hE.size, h4⟩
theorem OwnV.le {w0 w : World} {v : Value} {n : Nat} (h : OwnV w0 w v n) : n ≤ 1000000 := by obtain ⟨_, _, _, _, h⟩ := h; exact h
theorem ownV_made {w0 w : World} (hE : Ext w0 w) : OwnV w0 (w.alloc (.cells #[] 22)) (.slice (some ⟨w.heap.size, 0, none⟩) 0 0) 0 := by
  have := World.ownsRow_lit (base := w0.heap.size) (e := 22) (size := 1) w #[] 0 hE.size (by unfold maxLen; omega) (by simp)
  exact ⟨[], rfl, by simp, by simpa using this, by omega⟩
theorem ownV_one {w0 w : World} (hE : Ext w0 w) (ao : Option Addr) (n c : Nat) : OwnV w0 (w.alloc (.cells #[.slice ao n c] 22)) (.slice (some ⟨w.heap.size, 0, none⟩) 1 1) 1 := by
  have := World.ownsRow_lit (base := w0.heap.size) (e := 22) (size := 1) w #[.slice ao n c] 1 hE.size (by unfold maxLen; omega) (by simp)
  exact ⟨[.slice ao n c], rfl, by simp [Value.oneCell'], by simpa using this, by omega⟩
theorem OwnV.shape {w0 w : World} {v : Value} {n : Nat} (h : OwnV w0 w v n) :
    ∃ (ao : Option Addr) (c : Nat), v = .slice ao n c ∧ n ≤ c ∧ (∀ i, i < n → ∃ g u, ao = some ⟨g, 0, none⟩ ∧ w.cell? ⟨g, i, none⟩ = some u) := by
  obtain ⟨L, hL, -, h1, -⟩ := h
  have h2 := h1.2
  rcases h2 with ⟨rfl, hl⟩ | ⟨g, cap, cur, rfl, hg, hh, hc, r⟩
  · exact ⟨none, 0, by rw [hl], by omega, by omega⟩
  · refine ⟨some ⟨g, 0, none⟩, cap, rfl, hc, fun i hi => ⟨g, L[i]'(by omega), rfl, ?_⟩⟩
    rw [World.ownsRow.cellAt h1 i (by omega)]
    simp [show i < L.length by omega]
/-- append of m cells that are there -/
theorem run_appendA (ty : TypeId) (w0 w : World) (v : Value) (n m c : Nat) (ad : Addr) (M : List Value) (hO : OwnV w0 w v n) (hM : M.length = m) (hM1 : ∀ u ∈ M, u.oneCell' = true) (hnews : ∀ j x, M[j]? = some x → w.cell? (ad.add j) = some x) (hE : Ext w0 w) (hn : n + m ≤ 1000000) :
    ∃ v' w', (Builtin.append_ #[48, 48] ty #[v, .slice (some ad) m c]).run Try.prog w = .ok v' w' ∧ OwnV w0 w' v' (n + m) ∧ w.grownBy w' v.ownBlock ∧ Nw v.ownBlock w v'.ownBlock ∧ Ext w0 w' := by
  obtain ⟨i, hi, hz, hs1, hby⟩ := info_parts infoV
  obtain ⟨L, hL, hL1, hL2, -⟩ := hO
  have hblk := hL2.lt
  have hLM : ∀ u ∈ L ++ M, u.oneCell' = true := fun u hu => by
    rw [List.mem_append] at hu
    rcases hu with hu | hu
    · exact hL1 u hu
    · exact hM1 u hu
  have h2 := hL2.2
  rcases h2 with ⟨rfl, hl⟩ | ⟨g, cap, cur, rfl, hg, hh, hnc, hcm, hcs, htk⟩
  · subst hl
    have hL' : L = [] := List.eq_nil_of_length_eq_zero hL
    subst hL'
    obtain ⟨v', w', hrun, r1, r2, -⟩ := run_append_own (P := Try.prog) w w.heap.size 48 ty 22 i (.slice none 0 0) 1 24 undV hi hz hs1 hby rfl (by omega) (.slice none 0 0) 0 [] (World.ownsRow_nil _ _ _ _) ad m c M (by omega) hnews hM1 (by unfold maxLen; omega) (by omega) (Nat.le_refl _)
    have r1' := r1.lt
    exact ⟨v', w', hrun, ⟨M, by omega, hM1, ownsRow_mono (by simpa using r1) hE.size, by omega⟩, r2, Or.inr fun k hk => (r1' k hk).1, hE.grown r2 fun k hk => by simp [Value.ownBlock] at hk⟩
  · by_cases hroom : n + m ≤ cap
    · obtain ⟨w', hrun, r1, r2⟩ := run_append_fits (P := Try.prog) w w0.heap.size 48 ty 22 i 1 undV hi hs1 g n cap _ hL2 ad m c M (by omega) hnews hM1 hroom
      exact ⟨_, w', hrun, ⟨L ++ M, by rw [List.length_append]; omega, hLM, r1, by omega⟩, r2, Or.inl rfl, hE.grown r2 fun k hk => by cases hk; exact hg⟩
    · obtain ⟨v', w', hrun, r1, r2⟩ := run_append_arg_grows (P := Try.prog) (w := w) 48 ty 22 i (.slice none 0 0) 1 24 undV hi hz hs1 hby rfl (by omega) ⟨g, 0, none⟩ n cap L (by omega) (by
        intro j u hu
        have hj : j < L.length := (List.getElem?_eq_some_iff.1 hu).1
        rw [Addr.add_lit, Nat.zero_add, World.ownsRow.cellAt hL2 j (by omega)]
        exact hu) ad m c M (by omega) hnews (by omega) (by unfold maxLen; omega) (by omega)
      have r1' := r1.lt
      exact ⟨v', w', hrun, ⟨L ++ M, by rw [List.length_append]; omega, hLM, ownsRow_mono r1 hE.size, by omega⟩, ⟨r2.os, r2.tape, r2.output, r2.size, fun k hk _ => r2.block k hk (by simp)⟩, Or.inr fun k hk => (r1' k hk).1, hE.grown r2 (by simp)⟩
/-- append(s, t...) -/
theorem run_appendsV (ty : TypeId) (w0 w1 w : World) (v u : Value) (n m : Nat) (hO : OwnV w0 w v n) (hI : OwnV w1 w u m) (hE : Ext w0 w) (hn : n + m ≤ 1000000) :
    ∃ v' w', (Builtin.append_ #[48, 48] ty #[v, u]).run Try.prog w = .ok v' w' ∧ OwnV w0 w' v' (n + m) ∧ w.grownBy w' v.ownBlock ∧ Nw v.ownBlock w v'.ownBlock ∧ Ext w0 w' := by
  have hO' := hO
  obtain ⟨i, hi, hz, hs1, hby⟩ := info_parts infoV
  obtain ⟨L, hL, -, hL2, -⟩ := hO
  obtain ⟨M, hM, hM1, hM2, -⟩ := hI
  have hM3 := hM2.2
  rcases hM3 with ⟨rfl, hl⟩ | ⟨g, cap, cur, rfl, hg, hh, hc, r⟩
  · subst hl
    have hrun := run_append_owned_none (P := Try.prog) w w0.heap.size 48 ty 22 i 1 undV hi v n L hL2
    exact ⟨v, w, hrun, hO', ⟨rfl, rfl, rfl, Nat.le_refl _, fun _ _ _ => rfl⟩, Or.inl rfl, hE⟩
  · exact run_appendA ty w0 w v n m cap ⟨g, 0, none⟩ M hO' hM hM1 (fun j x hx => by
      have hj : j < M.length := (List.getElem?_eq_some_iff.1 hx).1
      rw [Addr.add_lit, Nat.zero_add, World.ownsRow.cellAt hM2 j (by omega)]; exact hx) hE hn
section
variable {ops : Array Oper} {rest : List Oper} {o : Oper} {a : Act} {Q : Exit → Act → World → Prop}
theorem step_appendsV {K : Act → World → Prop} {E : Prop} {w : World} (hg : o.guard = none) (s x : Operand) (hop : o.op = Op.call { callee := Callee.builtin Builtin.append, args := #[s, x], argTypes := #[48, 48] })
    (w0 w1 : World) (v u : Value) (n m : Nat) (hO : OwnV w0 w v n) (hI : OwnV w1 w u m) (hE : Ext w0 w) (hn : n + m ≤ 1000000) (hs : a.eval s = v) (hx : a.eval x = u)
    (hK : ∀ v' w', OwnV w0 w' v' (n + m) → Ext w0 w' → K (a.put o.dst v') w') :
    if Region.wanted o (yielded ops a.tmps) = true then Oper.wp Try.prog o a w K Q else E := by
  have hw : Region.wanted o (yielded ops a.tmps) = true := by simp [Region.wanted, hg]
  rw [if_pos hw]
  obtain ⟨v', w', hrun, h1, -, -, h2⟩ := run_appendsV o.type w0 w1 w v u n m hO hI hE hn
  unfold Oper.wp
  simp [execOp, hop, resolve, invoke, builtin, hs, hx, hrun, Result.andThen]
  exact hK v' w' h1 h2
theorem wp_appendsV (hg : o.guard = none) (s x : Operand) (hop : o.op = Op.call { callee := Callee.builtin Builtin.append, args := #[s, x], argTypes := #[48, 48] })
    (w0 w1 w : World) (v u : Value) (n m : Nat) (hO : OwnV w0 w v n) (hI : OwnV w1 w u m) (hE : Ext w0 w) (hn : n + m ≤ 1000000) (hs : a.eval s = v) (hx : a.eval x = u)
    (hK : ∀ v' w', OwnV w0 w' v' (n + m) → Ext w0 w' → wpList Try.prog ops Q rest (a.put o.dst v') w') :
    wpList Try.prog ops Q (o :: rest) a w := by
  obtain ⟨v', w', hrun, h1, -, -, h2⟩ := run_appendsV o.type w0 w1 w v u n m hO hI hE hn
  refine wpList_plain hg fun K hK' => ?_
  unfold Oper.wp
  simp [execOp, hop, resolve, invoke, builtin, hs, hx, hrun, Result.andThen]
  exact hK' _ _ (hK v' w' h1 h2)
/-- append(s, y) -/
theorem wp_append1V (hg : o.guard = none) (s x : Operand) (hop : o.op = Op.call { callee := Callee.builtin Builtin.append, args := #[s, x], argTypes := #[48, 48] })
    (w0 W : World) (v : Value) (n : Nat) (ao : Option Addr) (k c : Nat) (hO : OwnV w0 W v n) (hE : Ext w0 W) (hn : n < 1000000) (hs : a.eval s = v) (hx : a.eval x = .slice (some ⟨W.heap.size, 0, none⟩) 1 1)
    (hK : ∀ v' w', OwnV w0 w' v' (n + 1) → W.grownBy w' v.ownBlock → Nw v.ownBlock W v'.ownBlock → wpList Try.prog ops Q rest (a.put o.dst v') w') :
    wpList Try.prog ops Q (o :: rest) a (W.alloc (.cells #[.slice ao k c] 22)) := by
  have e : Ext W (W.alloc (.cells #[.slice ao k c] 22)) := (Ext.refl W).alloc _
  obtain ⟨v', w', hrun, h1, h2, h3, -⟩ := run_appendA o.type w0 (W.alloc (.cells #[.slice ao k c] 22)) v n 1 1 ⟨W.heap.size, 0, none⟩ [.slice ao k c] (hO.ext e) rfl (by simp [Value.oneCell']) (cell_one_new _ _ _) (hE.alloc _) (by omega)
  refine wpList_plain hg fun K hK' => ?_
  unfold Oper.wp
  simp [execOp, hop, resolve, invoke, builtin, hs, hx, hrun, Result.andThen]
  refine hK' _ _ (hK v' w' h1 ⟨h2.os.trans e.os, h2.tape.trans e.tape, h2.output.trans e.output, Nat.le_trans e.size h2.size, fun k hk hne => ?_⟩ ?_)
  · rw [h2.block k (Nat.lt_of_lt_of_le hk e.size) hne]; exact e.block k hk
  · rcases h3 with h3 | h3
    · exact Or.inl h3
    · exact Or.inr fun k hk => Nat.le_trans e.size (h3 k hk)
/-- append(s, y), as a step of a region that draws -/
theorem step_append1V {K : Act → World → Prop} {E : Prop} {w : World} (hg : o.guard = none) (s x : Operand) (hop : o.op = Op.call { callee := Callee.builtin Builtin.append, args := #[s, x], argTypes := #[48, 48] })
    (w0 : World) (v : Value) (n g : Nat) (ao : Option Addr) (k c : Nat) (hs : a.eval s = v) (hx : a.eval x = .slice (some ⟨g, 0, none⟩) 1 1) (hB : Blk w g 22 #[.slice ao k c]) (hO : OwnV w0 w v n) (hE : Ext w0 w) (hn : n < 1000000)
    (hK : ∀ v' w', OwnV w0 w' v' (n + 1) → w.grownBy w' v.ownBlock → Nw v.ownBlock w v'.ownBlock → K (a.put o.dst v') w') :
    if Region.wanted o (yielded ops a.tmps) = true then Oper.wp Try.prog o a w K Q else E := by
  have hw : Region.wanted o (yielded ops a.tmps) = true := by simp [Region.wanted, hg]
  rw [if_pos hw]
  obtain ⟨v', w', hrun, h1, h2, h3, -⟩ := run_appendA o.type w0 w v n 1 1 ⟨g, 0, none⟩ [.slice ao k c] hO rfl (by simp [Value.oneCell']) (fun j u hu => by
    have hj : j < 1 := by have := (List.getElem?_eq_some_iff.1 hu).1; simpa using this
    have e0 : j = 0 := by omega
    subst e0
    rw [Addr.add_lit, Nat.zero_add]
    exact hB.cell (i := 0) (by simpa using hu)) hE (by omega)
  unfold Oper.wp
  simp [execOp, hop, resolve, invoke, builtin, hs, hx, hrun, Result.andThen]
  exact hK v' w' h1 h2 h3
end
end Go.Zz

/- The number of automorphisms: the reference. -/
namespace Go.Zz
open Go.RowKit Go.Proofs
set_option maxHeartbeats 4000000
set_option maxRecDepth 8000

/-- all automorphisms are asked for -/
def auB (l : List Int) : Bool := isGrp l && decide (ord l ≤ 9)
theorem pow9 {n k : Nat} (hn : n ≤ 9) (hk : k ≤ 3) : n ^ k ≤ 729 :=
  Nat.le_trans (Nat.pow_le_pow_left hn k) (Nat.pow_le_pow_right (n := 9) (by omega) hk)
theorem autR_snoc (l : List Int) (K : Nat) : autR l (K + 1) = autR l K + autOne l (digU (ord l) K l.length) := rfl
theorem autOne_no {l : List Int} {I : List Nat} (h : fineK l I l.length = false) : autOne l I = 0 := by unfold autOne; rw [h]; rfl
theorem autOne_not {l : List Int} {I : List Nat} (h : autB l (extF l I) = false) : autOne l I = 0 := by unfold autOne; rw [h]; simp
theorem autOne_yes {l : List Int} {I : List Nat} (h : fineK l I l.length = true) (h2 : autB l (extF l I) = true) : autOne l I = 1 := by unfold autOne; rw [h, h2]; rfl
theorem sAutomorphismsOf_no (v : Value) (l : List Int) (w : World) (h : Ints w v l) (hn : auB l = false) :
    Calls Try.prog 38 #[.agg #[v]] w fun e w' => ∃ v', e = .returned (.tuple #[v', .bool false]) ∧ Ext w w' := by
  obtain ⟨wb, hwb⟩ : ∃ wb, wb = w.alloc (.cells #[v] 27) := ⟨_, rfl⟩
  have hE0 := (Ext.refl w).alloc (.cells #[v] 27)
  have hb := box_cell w v 27
  rw [← hwb] at hE0 hb
  have hg : ∀ W, Ext wb W → Ints W v l := fun W hW => h.ext (hE0.trans hW)
  have hE := Ext.refl wb
  have Hsz : Hid (w.heap.size + 1 = wb.heap.size) := Lib.hid (by rw [hwb]; simp [go_sem])
  have Hwb := Lib.hid hwb
  clear hwb h
  have cG := fun W (hW : Ext wb W) => sIsGroup_any v l W (hg W hW)
  have hE1 := hE.alloc (.cells #[] 22)
  have hb1 := hb _ hE1
  cases hgr : isGrp l
  · rw [hgr] at cG
    go_enter Try.func38, Try.ntmps38
    go_wp2_with fail
    rw [← Hwb.out]; rw [Hsz.out]
    go_wp2_with (go_at_call 10; refine (cG _ hE1).mono ?_; rintro e w1 ⟨rfl, hE2⟩; have hb2 := hb _ (hE1.trans hE2))
    exact bodyPost_ret (v := .tuple #[.slice (some ⟨wb.heap.size, 0, none⟩) 0 0, .bool false]) (by simp [results, Try.results38, go_sem]) rfl ⟨_, rfl, hE0.trans (hE1.trans hE2)⟩
  · rw [hgr] at cG
    have Hgr := Lib.hid hgr
    have h9 : ¬ (ord l ≤ 9) := by
      intro h9; unfold auB at hn; rw [hgr, decide_eq_true h9] at hn; cases hn
    have h9I : (9 : Int) < (ord l : Int) := by omega
    have cO := fun W (hW : Ext wb W) => l2Order_any v l W (hg W hW) Hgr
    clear hgr hn
    go_enter Try.func38, Try.ntmps38
    go_wp2_with fail
    rw [← Hwb.out]; rw [Hsz.out]
    go_wp2_with (first | (go_at_call 10; refine (cG _ hE1).mono ?_; rintro e w1 ⟨rfl, hE2⟩; have hE12 := hE1.trans hE2; have hb2 := hb _ hE12) | (go_at_call 14; refine (cO _ hE12).mono ?_; rintro e w3 ⟨rfl, hE3⟩))
    exact bodyPost_ret (v := .tuple #[.slice (some ⟨wb.heap.size, 0, none⟩) 0 0, .bool false]) (by simp [results, Try.results38, go_sem]) rfl ⟨_, rfl, hE0.trans (hE12.trans hE3)⟩
theorem sAutomorphismsOf_yes (v : Value) (l : List Int) (w : World) (h : Ints w v l) (hn : auB l = true) :
    Calls Try.prog 38 #[.agg #[v]] w fun e w' => ∃ v', e = .returned (.tuple #[v', .bool true]) ∧ OwnV w w' v' (autR l (ord l ^ l.length)) ∧ Ext w w' := by
  have hop := h.op
  obtain ⟨wb, hwb⟩ : ∃ wb, wb = w.alloc (.cells #[v] 27) := ⟨_, rfl⟩
  have hE0 := (Ext.refl w).alloc (.cells #[v] 27)
  have hb := box_cell w v 27
  rw [← hwb] at hE0 hb
  have hg : ∀ W, Ext wb W → Ints W v l := fun W hW => h.ext (hE0.trans hW)
  have hE := Ext.refl wb
  have Hsz : Hid (w.heap.size + 1 = wb.heap.size) := Lib.hid (by rw [hwb]; simp [go_sem])
  have Hwb := Lib.hid hwb
  clear hwb h
  obtain ⟨ao, c, adr, rfl, hlen, hadr, hcell⟩ := hop
  have hix := ints_index (c := c) elI szI hadr
  clear hadr
  obtain ⟨hgr, h9⟩ : isGrp l = true ∧ ord l ≤ 9 := by unfold auB at hn; simpa using hn
  have Hgr := Lib.hid hgr
  have cG := fun W (hW : Ext wb W) => sIsGroup_any _ l W (hg W hW)
  rw [hgr] at cG
  clear hgr hn
  have cO := fun W (hW : Ext wb W) => l2Order_any _ l W (hg W hW) Hgr
  have hl3 := isGrp_len Hgr.out
  have hob := ord_bd Hgr.out
  have h9I : ¬ (9 : Int) < (ord l : Int) := by omega
  have hE1 := hE.alloc (.cells #[] 22)
  have hO0 : OwnV wb (wb.alloc (.cells #[] 22)) (.slice (some ⟨wb.heap.size, 0, none⟩) 0 0) 0 := ownV_made hE
  obtain ⟨wc, hwc⟩ : ∃ wc, wc = wb.alloc (.cells #[] 22) := ⟨_, rfl⟩
  rw [← hwc] at hE1 hO0
  have hb1 := hb _ hE1
  have Hwc := Lib.hid hwc
  clear hwc
  go_enter Try.func38, Try.ntmps38
  go_wp2_with fail
  rw [← Hwb.out]; rw [Hsz.out]; rw [← Hwc.out]
  go_wp2_with (first | (go_at_call 10; refine (cG _ hE1).mono ?_; rintro e w1 ⟨rfl, hE2⟩; have hE12 := hE1.trans hE2; have hb2 := hb _ hE12) | (go_at_call 14; refine (cO _ hE12).mono ?_; rintro e w3 ⟨rfl, hE3⟩; replace hE12 := hE12.trans hE3; replace hE2 := hE2.trans hE3; have hb3 := hb _ hE12))
  have hOv := hO0.ext hE2
  clear hO0 hE2 hE1 hb1 hb2 hE hE3
  have hE := hE12
  clear hE12
  try clear hb3
  go_loopw [6, 7] (fun sc si wr => ∃ k : Nat, k ≤ l.length ∧ si = .int .i64 k ∧ sc = .int .i64 (ord l ^ k : Nat) ∧ OwnV wb wr (.slice (some ⟨wb.heap.size, 0, none⟩) 0 0) 0 ∧ Ext wb wr) (fun _ si _ => l.length - (intOf si).toNat)
  case atStart => exact ⟨0, by omega, rfl, rfl, hOv, hE⟩
  case round =>
    clear hE hOv
    obtain ⟨k, hk, rfl, rfl, hOv, hE⟩ := hrel
    have hbx := hb _ hE
    by_cases hlt : k < l.length
    · have hltI : (k : Int) < (l.length : Int) := by omega
      have hp := pow9 h9 (show k ≤ 3 by omega)
      have hp2 := pow9 h9 (show k + 1 ≤ 3 by omega)
      have Hs : Hid (((ord l ^ (k + 1) : Nat) : Int) = ((ord l ^ k : Nat) : Int) * (ord l : Int)) := Lib.hid (by rw [Nat.pow_succ, Int.natCast_mul])
      have hm : 0 ≤ ((ord l ^ k : Nat) : Int) * (ord l : Int) ∧ ((ord l ^ k : Nat) : Int) * (ord l : Int) ≤ 729 := by
        rw [← Hs.out]; omega
      clear hp2
      obtain ⟨M, hM⟩ : ∃ M : Nat, M = ord l ^ k := ⟨_, rfl⟩
      rw [← hM] at hp Hs hm ⊢
      clear hM
      go_wp2_with fail
      go_roundw
      case rel => exact ⟨k + 1, by omega, by go_num, by rw [Hs.out], hOv, hE⟩
      case measure => (simp [intOf]; omega)
    · have hltI : ¬ (k : Int) < (l.length : Int) := by omega
      have hkl : k = l.length := by omega
      have hC := pow9 h9 (show k ≤ 3 by omega)
      have HC : Hid (ord l ^ l.length = ord l ^ k) := Lib.hid (by rw [hkl])
      obtain ⟨C, hCd⟩ : ∃ C, C = ord l ^ k := ⟨_, rfl⟩
      rw [← hCd] at HC hC ⊢
      have HKL := Lib.hid hkl
      clear hCd hkl
      go_wp2_with fail
      go_loopw [4, 8] (fun sv sc wr => ∃ q : Nat, q ≤ C ∧ sc = .int .i64 q ∧ OwnV wb wr sv (autR l q) ∧ Ext wb wr) (fun _ sc _ => C - (intOf sc).toNat)
      case atStart => exact ⟨0, by omega, rfl, hOv, hE⟩
      case round =>
        clear hE hOv hbx
        obtain ⟨q, hq, rfl, hOv, hE⟩ := hrel
        have hle := autR_le l q
        have Hsn := Lib.hid (autR_snoc l q)
        obtain ⟨A, hA⟩ : ∃ A, A = autR l q := ⟨_, rfl⟩
        rw [← hA] at hOv hle Hsn
        by_cases hqt : q < C
        · have hqtI : (q : Int) < (C : Int) := by omega
          clear hA
          obtain ⟨wd, hwd⟩ : ∃ wd, wd = wr.alloc (.cells #[] 3) := ⟨_, rfl⟩
          have hOd : Own 3 wr wd (.slice (some ⟨wr.heap.size, 0, none⟩) 0 0) [] := by rw [hwd]; exact own_made (by omega) (Ext.refl wr) [] rfl
          have hEd : Ext wr wd := by rw [hwd]; exact (Ext.refl wr).alloc _
          have Hwd := Lib.hid hwd
          clear hwd
          have hOo := hOv.ext hEd
          go_wp2_with fail
          rw [← Hwd.out]
          go_loopw [9, 10, 11] (fun sm sx si wq => ∃ i : Nat, i ≤ l.length ∧ si = .int .i64 i ∧ sx = .int .i64 (digQ (ord l) q i : Nat) ∧ Own 3 wr wq sm (castL (digU (ord l) q i)) ∧ Ext wr wq) (fun _ _ si _ => l.length - (intOf si).toNat)
          case atStart => exact ⟨0, by omega, rfl, rfl, hOd, hEd⟩
          case round =>
            clear hEd hOd hOo
            obtain ⟨i, hi, rfl, rfl, hOm, hEm⟩ := hrel
            have hbm := hb _ (hE.trans hEm)
            have hqle := digQ_le (ord l) q i
            have Hd1 : Hid (digU (ord l) q (i + 1) = (digQ (ord l) q i % ord l) :: digU (ord l) q i) := Lib.hid rfl
            have Hd2 : Hid (digQ (ord l) q (i + 1) = digQ (ord l) q i / ord l) := Lib.hid rfl
            have hUl := digU_len (ord l) q i
            by_cases hit : i < l.length
            · have hitI : (i : Int) < (l.length : Int) := by omega
              have hUc : (castL (digU (ord l) q i)).length ≤ 3 := by rw [castL_len]; omega
              obtain ⟨U, hU⟩ : ∃ U, U = digU (ord l) q i := ⟨_, rfl⟩
              obtain ⟨x, hx⟩ : ∃ x, x = digQ (ord l) q i := ⟨_, rfl⟩
              rw [← hU] at hOm Hd1 hUc
              rw [← hx] at hqle Hd1 Hd2 ⊢
              clear hU hx hUl
              have hne2 : (((ord l : Nat) : Int) == 0) = false := by simp; omega
              have D : Hid (((x / ord l : Nat) : Int) = (x : Int) / ((ord l : Nat) : Int)) := Lib.hid (Int.natCast_ediv x (ord l))
              have Mo : Hid (((x % ord l : Nat) : Int) = (x : Int) % ((ord l : Nat) : Int)) := Lib.hid (Int.natCast_emod x (ord l))
              have m1 : x % ord l < 16777216 := by have := Nat.mod_le x (ord l); omega
              have m2 : x / ord l < 16777216 := by have := Nat.div_le_self x (ord l); omega
              have hmb : (0 : Int) ≤ (x : Int) % ((ord l : Nat) : Int) ∧ (x : Int) % ((ord l : Nat) : Int) < 16777216 := by rw [← Mo.out]; exact ⟨Int.natCast_nonneg _, Int.ofNat_lt.2 m1⟩
              have hdb : (0 : Int) ≤ (x : Int) / ((ord l : Nat) : Int) ∧ (x : Int) / ((ord l : Nat) : Int) < 16777216 := by rw [← D.out]; exact ⟨Int.natCast_nonneg _, Int.ofNat_lt.2 m2⟩
              clear m1 m2
              rename World => wm
              have hEm1 := hEm.alloc (.cells #[.int .i64 ((x : Int) % ((ord l : Nat) : Int))] 3)
              have hO1 : Own 3 wr (wm.alloc (.cells #[.int .i64 ((x : Int) % ((ord l : Nat) : Int))] 3)) (.slice (some ⟨wm.heap.size, 0, none⟩) 1 1) [(x : Int) % ((ord l : Nat) : Int)] := own_made (by omega) hEm _ rfl
              have hI1 := (hOm.ext ((Ext.refl wm).alloc (.cells #[.int .i64 ((x : Int) % ((ord l : Nat) : Int))] 3))).ints
              go_wp2_with (at_builtin; refine wp_appends slI rfl _ _ rfl wr _ _ _ _ _ hO1 hI1 hEm1 (by simp; omega) rfl rfl ?_; intro v1 w2 hO2 hE2)
              go_roundw
              case rel => exact ⟨i + 1, by omega, by go_num, by rw [Hd2.out, D.out], by rw [Hd1.out]; show Own _ _ _ _ (((x % ord l : Nat) : Int) :: castL U); rw [Mo.out]; exact hO2, hE2⟩
              case measure => (simp [intOf]; omega)
            · have hitI : ¬ (i : Int) < (l.length : Int) := by omega
              have hil : i = l.length := by omega
              rw [hil] at hOm hUl
              have HIo := Lib.hid (digU_lt (n := ord l) (by omega) q l.length)
              clear Hd1 Hd2 hqle hil hi hit
              obtain ⟨I, hI⟩ : ∃ I, I = digU (ord l) q l.length := ⟨_, rfl⟩
              rw [← hI] at hOm hUl HIo Hsn
              have Hil := Lib.hid hUl
              clear hI hUl
              have HFe := Lib.hid (extF_len l I)
              have HFl := Lib.hid (extF_lt Hgr.out I)
              have HAo := Lib.hid (fun h => autOne_no (l := l) (I := I) h)
              have HAn := Lib.hid (fun h => autOne_not (l := l) (I := I) h)
              have HAy := Lib.hid (fun h h2 => autOne_yes (l := l) (I := I) h h2)
              rename World => wm
              obtain ⟨aoI, cI, adrI, rfl, hadrI, hcellI⟩ := hOm.ints.nats
              have hixI := ints_index (c := cI) elI szI hadrI
              have HIo2 := Lib.hid (fun j (hj : j < I.length) => HIo.out _ (nthN_mem hj))
              clear hadrI HIo
              have hEs := Ext.refl wm
              have hE2 := hE.trans hEm
              have hOv2 := hOv.ext hEm
              clear hOv hE hEm
              go_wp2_with fail
              clear hitI
              go_loopw [12, 13] (fun sf si wq => ∃ i : Nat, i ≤ l.length ∧ si = .int .i64 i ∧ sf = .bool (fineK l I i) ∧ Ext wm wq) (fun _ si _ => l.length - (intOf si).toNat)
              case atStart => exact ⟨0, by omega, rfl, rfl, hEs⟩
              case round =>
                clear hEs hbm
                obtain ⟨i, hi, rfl, rfl, hEs⟩ := hrel
                have Hn : Hid (fineK l I (i + 1) = (fineK l I i && decide (mulF l (nthN I i) (nth l i).toNat = 0))) := Lib.hid rfl
                by_cases hit : i < I.length
                · have hitI : (i : Int) < (I.length : Int) := by omega
                  have hil : i < l.length := by have := Hil.out; omega
                  have ho2 := isGrp_nth Hgr.out hil
                  obtain ⟨o, ho⟩ : ∃ o : Nat, nth l i = (o : Int) := ⟨(nth l i).toNat, by omega⟩
                  rw [ho, Int.toNat_natCast] at Hn
                  rw [ho] at ho2
                  have kI := fun U => hcellI i _ hit (hEs.trans (lat_ext wr U))
                  have kb := fun U => hb _ (hE2.trans (hEs.trans (lat_ext wr U)))
                  have kG := fun U => hcell i _ hil (hE0.trans (hE2.trans (hEs.trans (lat_ext wr U))))
                  simp only [ho] at kG
                  have hIi := HIo2.out i hit
                  have hM := mulF_lt Hgr.out (nthN I i) o
                  have m1 := fun U => sMultipleOf_in _ l (nthN I i) o _ (hg _ (hE2.trans (hEs.trans (lat_ext wr U)))) Hgr (hasB_of Hgr.out hIi) (by omega) (by omega)
                  have hzq : (((mulF l (nthN I i) o : Nat) : Int) == 0) = decide (mulF l (nthN I i) o = 0) := by
                    rw [Bool.eq_iff_iff, beq_iff_eq, decide_eq_true_iff]; omega
                  obtain ⟨M, hMd⟩ : ∃ M, M = mulF l (nthN I i) o := ⟨_, rfl⟩
                  rw [← hMd] at Hn hM hzq
                  simp only [← hMd] at m1
                  clear hMd ho
                  obtain ⟨d, hd⟩ : ∃ d, d = decide (M = 0) := ⟨_, rfl⟩
                  rw [← hd] at Hn hzq
                  clear hd
                  have hEb := hEs
                  clear hEs
                  have hE := Ext.refl wr
                  cases hf : fineK l I i
                  · have Hn2 : Hid (fineK l I (i + 1) = false) := Lib.hid (by rw [Hn.out, hf]; rfl)
                    clear hf Hn
                    go_wp2_with fail
                    (refine wp_region_lat (wr) (by kernel_rfl) (by kernel_rfl) hE ?_); (repeat (go_big_quiet_step (first | (go_at_call 50; with_reducible exact Calls.lat (m1 _))))); (refine wpQuiet_nil ?_); (intro W hE'); (replace hE := lat_of hE'); (clear hE')
                    go_wp2_with fail
                    go_roundw
                    case rel => exact ⟨i + 1, by omega, by go_num, by rw [Hn2.out], hEb.trans hE⟩
                    case measure => (simp [intOf]; omega)
                  · have Hn2 : Hid (fineK l I (i + 1) = d) := Lib.hid (by rw [Hn.out, hf]; rfl)
                    clear hf Hn
                    go_wp2_with fail
                    (refine wp_region_lat (wr) (by kernel_rfl) (by kernel_rfl) hE ?_); (repeat (go_big_quiet_step (first | (go_at_call 50; with_reducible exact Calls.lat (m1 _))))); (refine wpQuiet_nil ?_); (intro W hE'); (replace hE := lat_of hE'); (clear hE')
                    go_wp2_with fail
                    go_roundw
                    case rel => exact ⟨i + 1, by omega, by go_num, by rw [Hn2.out], hEb.trans hE⟩
                    case measure => (simp [intOf]; omega)
                · have hitI : ¬ (i : Int) < (I.length : Int) := by omega
                  have hil : i = l.length := by have := Hil.out; omega
                  have hE3 := hE2.trans hEs
                  have hO3 := hOv2.ext hEs
                  have hI3 := hOm.ints.ext hEs
                  have hb3 := hb _ hE3
                  clear Hn hE2 hOv2 hOm hi hit
                  cases hf : fineK l I i
                  · have Hs2 : Hid (autR l (q + 1) = A) := Lib.hid (by rw [Hsn.out, HAo.out (by rw [← hil]; exact hf)]; omega)
                    clear hil hf
                    go_wp2_with fail
                    go_roundw
                    case rel => exact ⟨q + 1, by omega, by go_num, by rw [Hs2.out]; exact hO3, hE3⟩
                    case measure => (simp [intOf]; omega)
                  · have Hf : Hid (fineK l I l.length = true) := Lib.hid (by rw [← hil]; exact hf)
                    have cX := sExtend_grp _ l _ I wr (hg _ hE3) hI3 Hgr Hil.out (fun y hy => by obtain ⟨j, hj, rfl⟩ := List.getElem_of_mem hy; have := HIo2.out j hj; simpa [nthN, List.getD, hj] using this)
                    obtain ⟨F, hF⟩ : ∃ F, F = extF l I := ⟨_, rfl⟩
                    rw [← hF] at cX HFe HFl
                    have HF := Lib.hid hF
                    clear hil hF
                    have cA := fun W vf (hW : Ext wr W) (hf : Ints W vf (castL F)) => sIsAutomorphism_list _ l vf F W (hg _ (hE3.trans hW)) hf Hgr HFe.out HFl.out
                    cases ha : autB l F
                    · have Hs2 : Hid (autR l (q + 1) = A) := Lib.hid (by rw [Hsn.out, HAn.out (by rw [← HF.out]; exact ha)]; omega)
                      rw [ha] at cA
                      clear ha hf
                      go_wp2_with (first | (go_at_call 51; refine cX.mono ?_; rintro e w4 ⟨vf, rfl, hO4, hE4⟩; have hb4 := hb _ (hE3.trans hE4); have hI4 := hO4.ints) | (go_at_call 52; refine (cA _ _ hE4 hI4).mono ?_; rintro e w5 ⟨rfl, hE5⟩))
                      go_roundw
                      case rel => exact ⟨q + 1, by omega, by go_num, by rw [Hs2.out]; exact hO3.ext (hE4.trans hE5), hE3.trans (hE4.trans hE5)⟩
                      case measure => (simp [intOf]; omega)
                    · have Hs2 : Hid (autR l (q + 1) = A + 1) := Lib.hid (by rw [Hsn.out, HAy.out Hf.out (by rw [← HF.out]; exact ha)])
                      rw [ha] at cA
                      clear ha hf
                      go_wp2_with (first | (go_at_call 51; refine cX.mono ?_; rintro e w4 ⟨vf, rfl, hO4, hE4⟩; have hb4 := hb _ (hE3.trans hE4); have hI4 := hO4.ints; obtain ⟨aoF, cF, rfl, -⟩ := hO4.shape) | (go_at_call 52; refine (cA _ _ hE4 hI4).mono ?_; rintro e w5 ⟨rfl, hE5⟩; have hO5 := hO3.ext (hE4.trans hE5); have hE35 := hE3.trans (hE4.trans hE5)) | (at_builtin; refine wp_append1V rfl _ _ rfl wb _ _ A _ _ _ hO5 hE35 (by omega) rfl rfl ?_; intro v6 w6 hO6 hG6 hN6; have hE6 := hE35.grown hG6 (fun k hk => (hO5.blk k hk).1)))
                      go_roundw
                      case rel => exact ⟨q + 1, by omega, by go_num, by rw [Hs2.out]; exact hO6, hE6⟩
                      case measure => (simp [intOf]; omega)
        · have hqtI : ¬ (q : Int) < (C : Int) := by omega
          have hqC : q = C := by omega
          rw [hqC] at hA
          have HA := Lib.hid hA
          clear hA hqC
          have hbr := hb _ hE
          obtain ⟨ao2, c2, rfl, -⟩ := hOv.shape
          go_wp2_with fail
          exact bodyPost_ret (v := .tuple #[.slice ao2 A c2, .bool true]) (by simp [results, Try.results38, go_sem]) rfl ⟨_, rfl, by rw [HC.out, ← HA.out]; exact hOv.mono hE0, hE0.trans hE⟩
theorem sCountAutomorphisms_any (v : Value) (l : List Int) (w : World) (h : Ints w v l) :
    Calls Try.prog 17 #[.agg #[v]] w fun e w' => e = .returned (.int .i64 (if auB l then (autR l (ord l ^ l.length) : Int) else -1)) ∧ Ext w w' := by
  obtain ⟨wb, hwb⟩ : ∃ wb, wb = w.alloc (.cells #[v] 27) := ⟨_, rfl⟩
  have hE0 := (Ext.refl w).alloc (.cells #[v] 27)
  have hb := box_cell w v 27
  rw [← hwb] at hE0 hb
  have hg : ∀ W, Ext wb W → Ints W v l := fun W hW => h.ext (hE0.trans hW)
  have hE := Ext.refl wb
  have Hsz : Hid (w.heap.size + 1 = wb.heap.size) := Lib.hid (by rw [hwb]; simp [go_sem])
  have Hwb := Lib.hid hwb
  clear hwb h
  have hbx := hb _ hE
  cases hn : auB l
  · have cA := sAutomorphismsOf_no v l wb (hg _ hE) hn
    clear hn
    go_enter Try.func17, Try.ntmps17
    go_wp2_with fail
    rw [← Hwb.out]
    go_wp2_with (go_at_call 38; refine cA.mono ?_; rintro e w3 ⟨v3, rfl, hE3⟩)
    go_ret
    exact ⟨rfl, hE0.trans hE3⟩
  · have cA := sAutomorphismsOf_yes v l wb (hg _ hE) hn
    have Hle : Hid (autR l (ord l ^ l.length) ≤ 729) := Lib.hid (by
      have hh : isGrp l = true ∧ ord l ≤ 9 := by unfold auB at hn; simpa using hn
      exact Nat.le_trans (autR_le l _) (pow9 hh.2 (isGrp_len hh.1)))
    clear hn
    obtain ⟨A, hA⟩ : ∃ A, A = autR l (ord l ^ l.length) := ⟨_, rfl⟩
    rw [← hA] at cA ⊢
    clear hA
    go_enter Try.func17, Try.ntmps17
    go_wp2_with fail
    rw [← Hwb.out]
    go_wp2_with (go_at_call 38; refine cA.mono ?_; rintro e w3 ⟨v3, rfl, hO3, hE3⟩; obtain ⟨ao3, c3, rfl, -⟩ := hO3.shape)
    go_ret
    exact ⟨rfl, hE0.trans hE3⟩
end Go.Zz

/- Plain facts on linear equations: solutions in numbers from 1 to n, counted, of one color; colorings without one. No program is named here. -/
namespace Go.Zz

def cofB (x : Int) : Bool := inB x (-9) 9 && decide (x ≠ 0)
def eqB (c : List Int) : Bool := c.all cofB && inB c.length 2 4
theorem eqB_bad {c : List Int} {k : Nat} (hk : k < c.length) (h : cofB (nth c k) = false) : eqB c = false := by
  unfold eqB
  rw [Bool.and_eq_false_iff]
  refine Or.inl (Bool.not_eq_true _ ▸ fun e => ?_)
  rw [List.all_eq_true] at e
  rw [e _ (nth_mem hk)] at h; cases h
theorem eqB_end {c : List Int} (h : ∀ j, j < c.length → cofB (nth c j) = true) : eqB c = inB c.length 2 4 := by
  unfold eqB
  have : c.all cofB = true := by
    rw [List.all_eq_true]; intro x hx
    obtain ⟨k, hk, rfl⟩ := mem_nth hx
    exact h k hk
  rw [this]; rfl
theorem eqB_yes {c : List Int} (h : eqB c = true) : 2 ≤ c.length ∧ c.length ≤ 4 ∧ ∀ j, j < c.length → -9 ≤ nth c j ∧ nth c j ≤ 9 ∧ nth c j ≠ 0 := by
  unfold eqB at h
  rw [Bool.and_eq_true, inB_t] at h
  refine ⟨by omega, by omega, fun j hj => ?_⟩
  have := List.all_eq_true.1 h.1 _ (nth_mem hj)
  unfold cofB at this
  rw [Bool.and_eq_true, inB_t, decide_eq_true_iff] at this
  exact ⟨this.1.1, this.1.2, this.2⟩
theorem cof_bd {c : List Int} (h : eqB c = true) (j : Nat) : -9 ≤ nth c j ∧ nth c j ≤ 9 := by
  by_cases hj : j < c.length
  · have := (eqB_yes h).2.2 j hj; omega
  · have : nth c j = 0 := by simp [nth, List.getD, List.getElem?_eq_none (Nat.le_of_not_lt hj)]
    omega

/-! ### columns with the sum 0 -/
def sumI (l : List Int) : Int := l.foldl (fun s x => s + x) 0
theorem sumI_snoc (l : List Int) (x : Int) : sumI (l ++ [x]) = sumI l + x := by unfold sumI; rw [List.foldl_append]; rfl
theorem sumI_take (l : List Int) (k : Nat) (hk : k < l.length) : sumI (l.take (k + 1)) = sumI (l.take k) + nth l k := by rw [take_nth l k hk, sumI_snoc]
theorem sumI_bd (l : List Int) (h : ∀ x ∈ l, -9 ≤ x ∧ x ≤ 9) : ∀ k, k ≤ l.length → -9 * (k : Int) ≤ sumI (l.take k) ∧ sumI (l.take k) ≤ 9 * (k : Int)
  | 0, _ => by simp [sumI]
  | k + 1, hk => by
    have ih := sumI_bd l h k (by omega)
    have := h _ (nth_mem (l := l) (k := k) (by omega))
    rw [sumI_take l k (by omega)]; omega
theorem partTo_bd {c : List Int} (h : eqB c = true) (m k : Nat) : ∀ x ∈ partTo c m k, -9 ≤ x ∧ x ≤ 9 := fun x hx => by
  unfold partTo at hx
  rw [List.mem_map] at hx
  obtain ⟨j, -, rfl⟩ := hx
  exact cof_bd h j
theorem sumP_bd {c : List Int} (h : eqB c = true) (m k : Nat) (hk : k ≤ 4) : -36 ≤ sumI (partTo c m k) ∧ sumI (partTo c m k) ≤ 36 := by
  have h1 := sumI_bd _ (partTo_bd h m k) (partTo c m k).length (Nat.le_refl _)
  rw [List.take_length] at h1
  have := partTo_len c m k
  omega
def zcF (c : List Int) : Option Nat := if eqB c then (List.range (pw c.length)).find? (fun m => decide (1 ≤ m) && decide (sumI (partI c m) = 0)) else none
def zcB (c : List Int) : Bool := (zcF c).isSome
def zcL (c : List Int) : List Nat := match zcF c with | some m => elems m | none => []
theorem zc_no {c : List Int} (h : eqB c = false) : zcB c = false ∧ zcL c = [] := by
  have : zcF c = none := by unfold zcF; rw [h]; rfl
  unfold zcB zcL; rw [this]; exact ⟨rfl, rfl⟩
theorem zc_at {c : List Int} (h : eqB c = true) {m : Nat} (hm : m < pw c.length) (h1 : 1 ≤ m) (h0 : ∀ j, 1 ≤ j → j < m → ¬ sumI (partI c j) = 0) (hz : sumI (partI c m) = 0) : zcB c = true ∧ zcL c = elems m := by
  have : zcF c = some m := by
    unfold zcF; rw [if_pos h]
    exact find_at hm (fun j hj => by
      by_cases e : 1 ≤ j
      · rw [decide_eq_false (h0 j e hj)]; simp
      · rw [decide_eq_false e]; rfl) (by rw [decide_eq_true h1, decide_eq_true hz]; rfl)
  unfold zcB zcL; rw [this]; exact ⟨rfl, rfl⟩
theorem zc_none {c : List Int} (h : eqB c = true) (h0 : ∀ j, 1 ≤ j → j < pw c.length → ¬ sumI (partI c j) = 0) : zcB c = false ∧ zcL c = [] := by
  have : zcF c = none := by
    unfold zcF; rw [if_pos h]
    exact find_none (fun j hj => by
      by_cases e : 1 ≤ j
      · rw [decide_eq_false (h0 j e hj)]; simp
      · rw [decide_eq_false e]; rfl)
  unfold zcB zcL; rw [this]; exact ⟨rfl, rfl⟩

/-! ### solutions -/
def dotTo (c : List Int) (X : List Nat) : Nat → Int
  | 0 => 0
  | k + 1 => dotTo c X k + nth c k * (nthN X k : Int)
theorem dotTo_succ (c : List Int) (X : List Nat) (k : Nat) : dotTo c X (k + 1) = dotTo c X k + nth c k * (nthN X k : Int) := rfl
theorem nthN_app {X : List Nat} {y k : Nat} (hk : k < X.length) : nthN (X ++ [y]) k = nthN X k := by simp [nthN, List.getD, hk, List.getElem?_append_left hk]
theorem nthN_new (X : List Nat) (y : Nat) : nthN (X ++ [y]) X.length = y := by simp [nthN, List.getD]
theorem dotTo_app (c : List Int) (X : List Nat) (y : Nat) : ∀ k, k ≤ X.length → dotTo c (X ++ [y]) k = dotTo c X k
  | 0, _ => rfl
  | k + 1, h => by rw [dotTo_succ, dotTo_succ, dotTo_app c X y k (by omega), nthN_app (by omega)]
def dotL (c : List Int) (X : List Nat) : Int := dotTo c X X.length
theorem dotL_nil (c : List Int) : dotL c [] = 0 := rfl
theorem dotL_snoc (c : List Int) (X : List Nat) (y : Nat) : dotL c (X ++ [y]) = dotL c X + nth c X.length * (y : Int) := by
  unfold dotL
  rw [List.length_append, List.length_singleton, dotTo_succ, dotTo_app c X y X.length (Nat.le_refl _), nthN_new]
theorem mul_bd {a : Int} {y : Nat} (h1 : -9 ≤ a) (h2 : a ≤ 9) (hy : y ≤ 12) : -108 ≤ a * (y : Int) ∧ a * (y : Int) ≤ 108 := by
  have h3 : (0 : Int) ≤ y := by omega
  have h4 : a * (y : Int) ≤ 9 * (y : Int) := Int.mul_le_mul_of_nonneg_right h2 h3
  have h5 : -9 * (y : Int) ≤ a * (y : Int) := Int.mul_le_mul_of_nonneg_right h1 h3
  omega
theorem dotTo_bd {c : List Int} (h : eqB c = true) {X : List Nat} (hX : ∀ x ∈ X, x ≤ 12) : ∀ k, k ≤ X.length → -108 * (k : Int) ≤ dotTo c X k ∧ dotTo c X k ≤ 108 * (k : Int)
  | 0, _ => by simp [dotTo]
  | k + 1, hk => by
    have ih := dotTo_bd h hX k (by omega)
    have h1 := cof_bd h k
    have h2 := mul_bd h1.1 h1.2 (hX _ (nthN_mem (L := X) (k := k) (by omega)))
    rw [dotTo_succ]; omega

/-- whether the next number may be y -/
def okC (cs : List Int) (X : List Nat) (y : Nat) : Bool := cs.isEmpty || X.isEmpty || decide (nth cs (y - 1) = nth cs (nthN X 0 - 1))
def cntF (c : List Int) (n : Nat) (cs : List Int) : Nat → List Nat → Nat
  | 0, X => if dotL c X = 0 then 1 else 0
  | r + 1, X => (List.range n).foldl (fun s y => s + if okC cs X (y + 1) then cntF c n cs r (X ++ [y + 1]) else 0) 0
def cntK (c : List Int) (n : Nat) (cs : List Int) (r : Nat) (X : List Nat) (k : Nat) : Nat := (List.range k).foldl (fun s y => s + if okC cs X (y + 1) then cntF c n cs r (X ++ [y + 1]) else 0) 0
theorem cntK_zero (c : List Int) (n : Nat) (cs : List Int) (r : Nat) (X : List Nat) : cntK c n cs r X 0 = 0 := rfl
theorem cntK_succ (c : List Int) (n : Nat) (cs : List Int) (r : Nat) (X : List Nat) (k : Nat) : cntK c n cs r X (k + 1) = cntK c n cs r X k + if okC cs X (k + 1) then cntF c n cs r (X ++ [k + 1]) else 0 := by
  unfold cntK; rw [List.range_succ, List.foldl_append]; rfl
theorem cntK_no {c : List Int} {n : Nat} {cs : List Int} {r : Nat} {X : List Nat} {k : Nat} (h : okC cs X (k + 1) = false) : cntK c n cs r X (k + 1) = cntK c n cs r X k := by rw [cntK_succ, h]; rfl
theorem cntK_yes {c : List Int} {n : Nat} {cs : List Int} {r : Nat} {X : List Nat} {k : Nat} (h : okC cs X (k + 1) = true) : cntK c n cs r X (k + 1) = cntK c n cs r X k + cntF c n cs r (X ++ [k + 1]) := by rw [cntK_succ, h]; rfl
theorem cntK_mono (c : List Int) (n : Nat) (cs : List Int) (r : Nat) (X : List Nat) (k : Nat) : ∀ d, cntK c n cs r X k ≤ cntK c n cs r X (k + d)
  | 0 => Nat.le_refl _
  | d + 1 => by have := cntK_mono c n cs r X k d; rw [← Nat.add_assoc, cntK_succ]; omega
theorem cntF_all (c : List Int) (n : Nat) (cs : List Int) (r : Nat) (X : List Nat) : cntF c n cs (r + 1) X = cntK c n cs r X n := rfl
theorem cntF_yes {c : List Int} {n : Nat} {cs : List Int} {X : List Nat} (h : dotL c X = 0) : cntF c n cs 0 X = 1 := by unfold cntF; rw [if_pos h]
theorem cntF_no {c : List Int} {n : Nat} {cs : List Int} {X : List Nat} (h : ¬ dotL c X = 0) : cntF c n cs 0 X = 0 := by unfold cntF; rw [if_neg h]
theorem cntF_le (c : List Int) (n : Nat) (cs : List Int) : ∀ r X, cntF c n cs r X ≤ n ^ r := by
  intro r
  induction r with
  | zero => intro X; unfold cntF; split <;> simp
  | succ r ih =>
    intro X
    rw [cntF_all, Nat.pow_succ, Nat.mul_comm]
    have : ∀ k, cntK c n cs r X k ≤ k * n ^ r := by
      intro k
      induction k with
      | zero => simp [cntK]
      | succ k ik =>
        rw [cntK_succ, Nat.succ_mul]
        have := ih (X ++ [k + 1])
        split <;> omega
    exact this n
/-- whether some solution with the property is reached -/
def anyF (stop : List Nat → Bool) (c : List Int) (n : Nat) : Nat → List Nat → Bool
  | 0, X => decide (dotL c X = 0) && stop X
  | r + 1, X => (List.range n).any (fun y => anyF stop c n r (X ++ [y + 1]))
theorem anyF_leaf {stop : List Nat → Bool} {c : List Int} {n : Nat} {X : List Nat} : anyF stop c n 0 X = (decide (dotL c X = 0) && stop X) := rfl
theorem anyF_hit {stop : List Nat → Bool} {c : List Int} {n r k : Nat} {X : List Nat} (hk : k < n) (h : anyF stop c n r (X ++ [k + 1]) = true) : anyF stop c n (r + 1) X = true := by
  unfold anyF; rw [List.any_eq_true]; exact ⟨k, List.mem_range.2 hk, h⟩
theorem anyF_none {stop : List Nat → Bool} {c : List Int} {n r : Nat} {X : List Nat} (h : ∀ k, k < n → anyF stop c n r (X ++ [k + 1]) = false) : anyF stop c n (r + 1) X = false := by
  unfold anyF; rw [List.any_eq_false]; intro k hk; rw [h k (List.mem_range.1 hk)]; simp
theorem anyF_iff (stop : List Nat → Bool) (c : List Int) (n : Nat) : ∀ r X, anyF stop c n r X = true ↔ ∃ Y : List Nat, Y.length = r ∧ (∀ y ∈ Y, 1 ≤ y ∧ y ≤ n) ∧ dotL c (X ++ Y) = 0 ∧ stop (X ++ Y) = true := by
  intro r
  induction r with
  | zero =>
    intro X
    rw [anyF_leaf, Bool.and_eq_true, decide_eq_true_iff]
    constructor
    · rintro ⟨h1, h2⟩; exact ⟨[], rfl, by simp, by simpa using h1, by simpa using h2⟩
    · rintro ⟨Y, hY, -, h1, h2⟩
      have := List.eq_nil_of_length_eq_zero hY
      subst this
      rw [List.append_nil] at h1 h2; exact ⟨h1, h2⟩
  | succ r ih =>
    intro X
    unfold anyF
    rw [List.any_eq_true]
    constructor
    · rintro ⟨k, hk, h⟩
      obtain ⟨Y, h1, h2, h3, h4⟩ := (ih _).1 h
      have := List.mem_range.1 hk
      refine ⟨(k + 1) :: Y, by simp [h1], fun y hy => ?_, by simpa using h3, by simpa using h4⟩
      rw [List.mem_cons] at hy
      rcases hy with rfl | hy
      · omega
      · exact h2 y hy
    · rintro ⟨Y, h1, h2, h3, h4⟩
      cases Y with
      | nil => simp at h1
      | cons y Y =>
        have hy := h2 y (by simp)
        refine ⟨y - 1, List.mem_range.2 (by omega), (ih _).2 ⟨Y, by simpa using h1, fun z hz => h2 z (by simp [hz]), ?_, ?_⟩⟩
        · rw [show y - 1 + 1 = y by omega]; simpa using h3
        · rw [show y - 1 + 1 = y by omega]; simpa using h4
/-- all numbers have the color of the first -/
def sameB (cs : List Int) (X : List Nat) : Bool := X.all (fun x => decide (nth cs (x - 1) = nth cs (nthN X 0 - 1)))
def sameTo (cs : List Int) (X : List Nat) (k : Nat) : Prop := ∀ j, j < k → nth cs (nthN X j - 1) = nth cs (nthN X 0 - 1)
theorem memN_nth {X : List Nat} {x : Nat} (h : x ∈ X) : ∃ k, k < X.length ∧ nthN X k = x := by
  obtain ⟨k, hk, rfl⟩ := List.getElem_of_mem h
  exact ⟨k, hk, by simp [nthN, List.getD, hk]⟩
theorem sameB_yes {cs : List Int} {X : List Nat} (h : sameTo cs X X.length) : sameB cs X = true := by
  unfold sameB; rw [List.all_eq_true]; intro x hx
  obtain ⟨k, hk, rfl⟩ := memN_nth hx
  exact decide_eq_true (h k hk)
theorem sameB_no {cs : List Int} {X : List Nat} {k : Nat} (hk : k < X.length) (h : ¬ nth cs (nthN X k - 1) = nth cs (nthN X 0 - 1)) : sameB cs X = false := by
  rw [← Bool.not_eq_true]; intro e
  unfold sameB at e
  rw [List.all_eq_true] at e
  exact h (of_decide_eq_true (e _ (nthN_mem hk)))
theorem sameB_iff {cs : List Int} {X : List Nat} : sameB cs X = true ↔ sameTo cs X X.length := by
  constructor
  · intro h j hj
    refine Classical.byContradiction fun hn => ?_
    rw [sameB_no hj hn] at h; cases h
  · exact sameB_yes
/-- with colors the count is that of the solutions of one color -/
theorem cntF_color (c : List Int) (n : Nat) (cs : List Int) (hcs : cs ≠ []) : ∀ r X, sameTo cs X X.length → (0 < cntF c n cs r X ↔ anyF (sameB cs) c n r X = true) := by
  have he : cs.isEmpty = false := by cases cs with | nil => exact absurd rfl hcs | cons => rfl
  intro r
  induction r with
  | zero =>
    intro X hX
    rw [anyF_leaf, sameB_yes hX]
    by_cases h : dotL c X = 0
    · rw [cntF_yes h, decide_eq_true h]; simp
    · rw [cntF_no h, decide_eq_false h]; simp
  | succ r ih =>
    intro X hX
    have hok : ∀ y, okC cs X y = true → sameTo cs (X ++ [y]) (X ++ [y]).length := fun y hy j hj => by
      unfold okC at hy
      rw [he, Bool.false_or, Bool.or_eq_true, decide_eq_true_iff] at hy
      rw [List.length_append, List.length_singleton] at hj
      cases X with
      | nil => have : j = 0 := by simpa using hj
               subst this; rfl
      | cons x X =>
        rcases hy with hy | hy
        · cases hy
        · have e0 : nthN ((x :: X) ++ [y]) 0 = nthN (x :: X) 0 := nthN_app (by simp)
          by_cases hj2 : j < (x :: X).length
          · rw [nthN_app hj2, e0]; exact hX j hj2
          · have : j = (x :: X).length := by omega
            subst this
            rw [nthN_new, e0]; exact hy
    have hno : ∀ y, okC cs X y = false → anyF (sameB cs) c n r (X ++ [y]) = false := fun y hy => by
      rw [← Bool.not_eq_true, anyF_iff]
      rintro ⟨Y, -, -, -, h4⟩
      rw [sameB_iff] at h4
      unfold okC at hy
      rw [he, Bool.false_or, Bool.or_eq_false_iff, decide_eq_false_iff_not] at hy
      cases X with
      | nil => simp at hy
      | cons x X =>
        have := h4 (x :: X).length (by simp)
        apply hy.2
        have e1 : nthN ((x :: X) ++ [y] ++ Y) (x :: X).length = y := by simp [nthN, List.getD]
        have e2 : nthN ((x :: X) ++ [y] ++ Y) 0 = nthN (x :: X) 0 := by simp [nthN, List.getD]
        rw [e1, e2] at this; exact this
    rw [cntF_all]
    have key : ∀ k, 0 < cntK c n cs r X k ↔ ∃ y, y < k ∧ anyF (sameB cs) c n r (X ++ [y + 1]) = true := by
      intro k
      induction k with
      | zero => rw [cntK_zero]; exact ⟨fun h => absurd h (by omega), fun ⟨y, h, _⟩ => absurd h (by omega)⟩
      | succ k ik =>
        cases ho : okC cs X (k + 1)
        · rw [cntK_no ho, ik]
          constructor
          · rintro ⟨y, h1, h2⟩; exact ⟨y, by omega, h2⟩
          · rintro ⟨y, h1, h2⟩
            by_cases e : y = k
            · subst e; rw [hno _ ho] at h2; cases h2
            · exact ⟨y, by omega, h2⟩
        · rw [cntK_yes ho]
          have h3 := ih _ (hok _ ho)
          constructor
          · intro h
            by_cases h4 : 0 < cntK c n cs r X k
            · obtain ⟨y, h1, h2⟩ := ik.1 h4; exact ⟨y, by omega, h2⟩
            · exact ⟨k, by omega, h3.1 (by omega)⟩
          · rintro ⟨y, h1, h2⟩
            by_cases e : y = k
            · subst e; have := h3.2 h2; omega
            · have := ik.2 ⟨y, by omega, h2⟩; omega
    rw [key n]
    constructor
    · rintro ⟨y, h1, h2⟩; exact anyF_hit h1 h2
    · intro h
      unfold anyF at h
      rw [List.any_eq_true] at h
      obtain ⟨y, h1, h2⟩ := h
      exact ⟨y, List.mem_range.1 h1, h2⟩
/-- some solution has one color -/
def monoB (c cs : List Int) : Bool := anyF (sameB cs) c cs.length c.length []
theorem mono_cnt {c cs : List Int} (hcs : cs ≠ []) : (0 < cntF c cs.length cs c.length []) ↔ monoB c cs = true := cntF_color c cs.length cs hcs _ [] (fun j hj => absurd hj (by simp))
theorem mono_ext {c cs : List Int} (ds : List Int) (hc : 0 < c.length) (h : monoB c cs = true) : monoB c (cs ++ ds) = true := by
  unfold monoB at h ⊢
  rw [anyF_iff] at h ⊢
  obtain ⟨Y, h1, h2, h3, h4⟩ := h
  refine ⟨Y, h1, fun y hy => ?_, h3, ?_⟩
  · have := h2 y hy; rw [List.length_append]; omega
  · rw [List.nil_append] at h4 ⊢
    rw [sameB_iff] at h4 ⊢
    intro j hj
    have e : ∀ j, j < Y.length → nth (cs ++ ds) (nthN Y j - 1) = nth cs (nthN Y j - 1) := fun j hj => by
      have := h2 _ (nthN_mem hj)
      simp only [nth, List.getD]
      rw [List.getElem?_append_left (by omega)]
    rw [e j hj, e 0 (by omega)]; exact h4 j hj

/-! ### colorings -/
/-- colors go on without a solution of one color, up to n -/
def avF (c : List Int) (k n : Nat) : Nat → List Int → Bool
  | 0, _ => false
  | f + 1, cs => if decide (cs ≠ []) && monoB c cs then false else if cs.length = n then true else (List.range k).any (fun x => avF c k n f (cs ++ [(x : Int)]))
theorem avF_mono {c : List Int} {k n f : Nat} {cs : List Int} (h0 : cs ≠ []) (h : monoB c cs = true) : avF c k n (f + 1) cs = false := by unfold avF; rw [h, decide_eq_true h0]; rfl
theorem avF_full {c : List Int} {k n f : Nat} {cs : List Int} (h : (decide (cs ≠ []) && monoB c cs) = false) (hn : cs.length = n) : avF c k n (f + 1) cs = true := by unfold avF; rw [h, if_pos hn]; rfl
theorem avF_part {c : List Int} {k n f : Nat} {cs : List Int} (h : (decide (cs ≠ []) && monoB c cs) = false) (hn : ¬ cs.length = n) : avF c k n (f + 1) cs = (List.range k).any (fun x => avF c k n f (cs ++ [(x : Int)])) := by
  conv => lhs; unfold avF
  rw [h, if_neg hn]; rfl
/-- a number's digits base 2, as colors -/
def bitsI (n m : Nat) : List Int := (List.range n).map (fun i => ((m.testBit i).toNat : Int))
theorem bitsI_len (n m : Nat) : (bitsI n m).length = n := by simp [bitsI]
theorem avF_iff {c : List Int} (hc : 0 < c.length) {n : Nat} (hn : 1 ≤ n) : ∀ f cs, cs.length ≤ n → n < cs.length + f → (avF c 2 n f cs = true ↔ ∃ ds : List Int, cs.length + ds.length = n ∧ (∀ d ∈ ds, d = 0 ∨ d = 1) ∧ monoB c (cs ++ ds) = false) := by
  intro f
  induction f with
  | zero => intro cs h1 h2; omega
  | succ f ih =>
    intro cs h1 h2
    cases hm : (decide (cs ≠ []) && monoB c cs)
    · by_cases hl : cs.length = n
      · rw [avF_full hm hl]
        have h0 : cs ≠ [] := by intro e; subst e; simp at hl; omega
        rw [decide_eq_true h0, Bool.true_and] at hm
        exact ⟨fun _ => ⟨[], by simpa using hl, by simp, by simpa using hm⟩, fun _ => rfl⟩
      · rw [avF_part hm hl, List.any_eq_true]
        constructor
        · rintro ⟨x, hx, h⟩
          have hx2 := List.mem_range.1 hx
          obtain ⟨ds, e1, e2, e3⟩ := (ih _ (by simp; omega) (by simp; omega)).1 h
          refine ⟨(x : Int) :: ds, by simp at e1 ⊢; omega, fun d hd => ?_, by simpa using e3⟩
          rw [List.mem_cons] at hd
          rcases hd with rfl | hd
          · omega
          · exact e2 d hd
        · rintro ⟨ds, e1, e2, e3⟩
          cases ds with
          | nil => simp at e1; omega
          | cons d ds =>
            have hd := e2 d (by simp)
            refine ⟨d.toNat, List.mem_range.2 (by omega), (ih _ (by simp; omega) (by simp; omega)).2 ⟨ds, by simp at e1 ⊢; omega, fun z hz => e2 z (by simp [hz]), ?_⟩⟩
            rw [show ((d.toNat : Nat) : Int) = d by omega]
            simpa using e3
    · rw [Bool.and_eq_true, decide_eq_true_iff] at hm
      rw [avF_mono hm.1 hm.2]
      constructor
      · intro h; cases h
      · rintro ⟨ds, -, -, e3⟩
        rw [mono_ext ds hc hm.2] at e3; cases e3
theorem bits_list : ∀ (ds : List Int), (∀ d ∈ ds, d = 0 ∨ d = 1) → ∃ m, m < 2 ^ ds.length ∧ bitsI ds.length m = ds := by
  intro ds
  induction ds with
  | nil => intro _; exact ⟨0, by simp, rfl⟩
  | cons d ds ih =>
    intro h
    obtain ⟨m, h1, h2⟩ := ih (fun x hx => h x (by simp [hx]))
    have hd := h d (by simp)
    refine ⟨d.toNat + 2 * m, by rw [List.length_cons, Nat.pow_succ]; omega, ?_⟩
    unfold bitsI at h2 ⊢
    rw [List.length_cons, List.range_succ_eq_map, List.map_cons, List.map_map]
    congr 1
    · rw [Nat.testBit_zero]
      rcases hd with rfl | rfl
      · simp
      · have : (Int.toNat 1 + 2 * m) % 2 = 1 := by simp
        rw [this]; rfl
    · conv => rhs; rw [← h2]
      apply List.map_congr_left
      intro i _
      show (((d.toNat + 2 * m).testBit (i + 1)).toNat : Int) = _
      rw [Nat.testBit_succ, show (d.toNat + 2 * m) / 2 = m by omega]
theorem avF_masks {c : List Int} (hc : 0 < c.length) {n : Nat} (hn : 1 ≤ n) : avF c 2 n (n + 1) [] = true ↔ ∃ m, m < 2 ^ n ∧ monoB c (bitsI n m) = false := by
  rw [avF_iff hc hn _ _ (by simp) (by simp)]
  constructor
  · rintro ⟨ds, h1, h2, h3⟩
    simp at h1
    obtain ⟨m, e1, e2⟩ := bits_list ds h2
    rw [h1] at e1 e2
    exact ⟨m, e1, by rw [e2]; simpa using h3⟩
  · rintro ⟨m, h1, h2⟩
    refine ⟨bitsI n m, by simp [bitsI_len], fun d hd => ?_, by simpa using h2⟩
    unfold bitsI at hd
    rw [List.mem_map] at hd
    obtain ⟨i, -, rfl⟩ := hd
    cases m.testBit i
    · exact Or.inl rfl
    · exact Or.inr rfl
/-- each coloring of n numbers has a solution of one color -/
def allB (c : List Int) (n : Nat) : Bool := (List.range (pw n)).all (fun m => monoB c (bitsI n m))
theorem allB_no {c : List Int} {n m : Nat} (hm : m < pw n) (h : monoB c (bitsI n m) = false) : allB c n = false := by
  rw [← Bool.not_eq_true]; intro e
  unfold allB at e; rw [List.all_eq_true] at e
  rw [e m (List.mem_range.2 hm)] at h; cases h
theorem allB_yes {c : List Int} {n : Nat} (h : ∀ m, m < pw n → monoB c (bitsI n m) = true) : allB c n = true := by
  unfold allB; rw [List.all_eq_true]; intro m hm; exact h m (List.mem_range.1 hm)
theorem allB_av {c : List Int} (hc : 0 < c.length) {n : Nat} (hn : 1 ≤ n) : avF c 2 n (n + 1) [] = !allB c n := by
  cases h : allB c n
  · rw [Bool.not_false, avF_masks hc hn]
    unfold allB at h
    rw [List.all_eq_false] at h
    obtain ⟨m, h1, h2⟩ := h
    exact ⟨m, List.mem_range.1 h1, by simpa using h2⟩
  · rw [Bool.not_true, ← Bool.not_eq_true, avF_masks hc hn]
    rintro ⟨m, h1, h2⟩
    rw [allB_no h1 h2] at h; cases h
def radF (c : List Int) : Option Nat := (List.range 9).find? (fun n => allB c (n + 1))
def radN (c : List Int) : Int := if eqB c && decide (c.length ≤ 3) then (match radF c with | some n => (n : Int) + 1 | none => 0) else -1
theorem rad_at {c : List Int} (h : eqB c = true) (h3 : c.length ≤ 3) {n : Nat} (hn : n < 9) (h0 : ∀ j, j < n → allB c (j + 1) = false) (h1 : allB c (n + 1) = true) : radN c = (n : Int) + 1 := by
  unfold radN radF; rw [h, decide_eq_true h3, find_at hn h0 h1]; rfl
theorem rad_none {c : List Int} (h : eqB c = true) (h3 : c.length ≤ 3) (h0 : ∀ j, j < 9 → allB c (j + 1) = false) : radN c = 0 := by
  unfold radN radF; rw [h, decide_eq_true h3, find_none h0]; rfl
theorem rad_no {c : List Int} (h : eqB c = false ∨ ¬ c.length ≤ 3) : radN c = -1 := by
  unfold radN
  rcases h with h | h
  · rw [h]; rfl
  · rw [decide_eq_false h, Bool.and_false]; rfl
end Go.Zz

/- Sequences of elements: IsSequence, parts, totals, the shortest part with the sum 0. -/
namespace Go.Zz
open Go.RowKit Go.Proofs
set_option maxHeartbeats 1000000
set_option maxRecDepth 20000

theorem Calls.ext_of_same {P : Program} {f : FuncId} {args : Array Value} {w : World} {v : Value} (h : Calls P f args w fun e w' => e = .returned v ∧ w = w') :
    Calls P f args w fun e w' => e = .returned v ∧ Ext w w' := h.mono fun _ _ ⟨he, hw⟩ => ⟨he, hw ▸ Ext.refl _⟩
theorem cmpLess_any (a b : Int) (w : World) :
    Calls Try.prog 77 #[.int .i64 a, .int .i64 b] w fun e w' => e = .returned (.bool (decide (a < b))) ∧ w = w' := by
  have hn : ∀ (x : Int) (W : World), Calls Try.prog 89 #[.int .i64 x] W fun e w' => e = .returned (.bool false) ∧ W = w' := fun x W => by
    go_enter Try.func89, Try.ntmps89
    go_wp2_with fail
    go_ret
    exact ⟨by simp, rfl⟩
  have hd : ∃ d, d = decide (a < b) := ⟨_, rfl⟩
  go_enter Try.func77, Try.ntmps77
  go_wp2_with (first | (go_at_call 89; refine (hn _ _).mono ?_; rintro e w' ⟨rfl, rfl⟩))
  go_ret
  exact ⟨rfl, rfl⟩
theorem cmpLess_val (a b : Int) (w : World) {c : Bool} (hc : decide (a < b) = c) :
    Calls Try.prog 77 #[.int .i64 a, .int .i64 b] w fun e w' => e = .returned (.bool c) ∧ w = w' := by subst hc; exact cmpLess_any a b w
end Go.Zz

/- Parts of sequences and their totals, the first part of a length, the shortest part, with the sum 0. -/
namespace Go.Zz
open Go.RowKit Go.Proofs
set_option maxHeartbeats 1000000
set_option maxRecDepth 20000

theorem pw_len {n : Nat} (h : n ≤ 12) : pw n ≤ 4096 := Nat.pow_le_pow_right (n := 2) (by omega) h
end Go.Zz

/- Coefficients of equations and columns with the sum 0, of both. -/
namespace Go.Zz
open Go.RowKit Go.Proofs
set_option maxHeartbeats 1000000
set_option maxRecDepth 8000

theorem cof_zero : cofB 0 = false := by decide
theorem cof_out {x : Int} (h : inB x (-9) 9 = false) : cofB x = false := by unfold cofB; rw [h]; rfl
theorem cof_in {x : Int} (h : inB x (-9) 9 = true) (h0 : ¬ x = 0) : cofB x = true := by unfold cofB; rw [h]; simp [h0]
end Go.Zz
