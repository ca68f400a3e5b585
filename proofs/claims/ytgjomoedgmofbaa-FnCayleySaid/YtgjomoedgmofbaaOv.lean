/- Slices of slices that a call makes: their length alone is told. -/
import Derived.Test.YtgjomoedgmofbaaFr
import Derived.Test.YtgjomoedgmofbaaC78
import Derived.Laws.OwnMore
namespace Go.Zz
open Go.RowKit Go.Proofs
set_option maxHeartbeats 1000000

theorem infoV : (Try.prog.info? 24).map (fun i => (i.zero, i.size, i.bytes)) = some (some (.slice none 0 0), 1, 24) := by kernel_rfl
theorem undV : Try.prog.underlying 88 = some (.slice 24) := by kernel_rfl
theorem elV : Try.prog.underlying 88 = some (.slice (Try.prog.elem 88)) := by kernel_rfl
theorem szV : ∀ w, (Go.sizeOf (Try.prog.elem 88)).run Try.prog w = .ok 1 w := fun w => by kernel_rfl
/-- v is a slice of n slices of the call's own -/
def OwnV (w0 w : World) (v : Value) (n : Nat) : Prop :=
  ∃ L : List Value, L.length = n ∧ (∀ u ∈ L, u.oneCell' = true) ∧ w.ownsRow w0.heap.size 24 1 v n L ∧ n ≤ 1000000
theorem OwnV.blk {w0 w : World} {v : Value} {n : Nat} (h : OwnV w0 w v n) : ∀ k, v.ownBlock = some k → w0.heap.size ≤ k ∧ k < w.heap.size := by
  obtain ⟨L, -, -, h, -⟩ := h; exact h.lt
theorem OwnV.ext {w0 w w' : World} {v : Value} {n : Nat} (h : OwnV w0 w v n) (hE : Ext w w') : OwnV w0 w' v n := by
  obtain ⟨L, h1, h2, h3, h4⟩ := h
  refine ⟨L, h1, h2, h3.kept (row := none) ⟨hE.os, hE.tape, hE.output, hE.size, fun k hk _ => hE.block k hk⟩ ?_, h4⟩
  cases hv : v.ownBlock <;> simp
theorem OwnV.mono {w0 w1 w : World} {v : Value} {n : Nat} (h : OwnV w1 w v n) (hE : Ext w0 w1) : OwnV w0 w v n := by
  obtain ⟨L, h1, h2, h3, h4⟩ := h
  exact ⟨L, h1, h2, ownsRow_mono h3 hE.size, h4⟩
theorem OwnV.le {w0 w : World} {v : Value} {n : Nat} (h : OwnV w0 w v n) : n ≤ 1000000 := by obtain ⟨_, _, _, _, h⟩ := h; exact h
theorem ownV_made {w0 w : World} (hE : Ext w0 w) : OwnV w0 (w.alloc (.cells #[] 24)) (.slice (some ⟨w.heap.size, 0, none⟩) 0 0) 0 := by
  have := World.ownsRow_lit (base := w0.heap.size) (e := 24) (size := 1) w #[] 0 hE.size (by unfold maxLen; omega) (by simp)
  exact ⟨[], rfl, by simp, by simpa using this, by omega⟩
theorem ownV_one {w0 w : World} (hE : Ext w0 w) (ao : Option Addr) (n c : Nat) : OwnV w0 (w.alloc (.cells #[.slice ao n c] 24)) (.slice (some ⟨w.heap.size, 0, none⟩) 1 1) 1 := by
  have := World.ownsRow_lit (base := w0.heap.size) (e := 24) (size := 1) w #[.slice ao n c] 1 hE.size (by unfold maxLen; omega) (by simp)
  exact ⟨[.slice ao n c], rfl, by simp [Value.oneCell'], by simpa using this, by omega⟩
theorem OwnV.shape {w0 w : World} {v : Value} {n : Nat} (h : OwnV w0 w v n) :
    ∃ (ao : Option Addr) (c : Nat), v = .slice ao n c ∧ n ≤ c ∧ (∀ i, i < n → ∃ g u, ao = some ⟨g, 0, none⟩ ∧ w.cell? ⟨g, i, none⟩ = some u) := by
  obtain ⟨L, hL, -, h1, -⟩ := h
  have h2 := h1.2
  rcases h2 with ⟨rfl, hl⟩ | ⟨g, cap, cur, rfl, hg, hh, hc, r⟩
  · exact ⟨none, 0, by rw [hl], by omega, by omega⟩
  · refine ⟨some ⟨g, 0, none⟩, cap, rfl, hc, fun i hi => ⟨g, L[i]'(by omega), rfl, ?_⟩⟩
    rw [World.ownsRow.cellAt h1 i (by omega)]
    simp [show i < L.length by omega]
/-- append of m cells that are there -/
theorem run_appendA (ty : TypeId) (w0 w : World) (v : Value) (n m c : Nat) (ad : Addr) (M : List Value) (hO : OwnV w0 w v n) (hM : M.length = m) (hM1 : ∀ u ∈ M, u.oneCell' = true) (hnews : ∀ j x, M[j]? = some x → w.cell? (ad.add j) = some x) (hE : Ext w0 w) (hn : n + m ≤ 1000000) :
    ∃ v' w', (Builtin.append_ #[88, 88] ty #[v, .slice (some ad) m c]).run Try.prog w = .ok v' w' ∧ OwnV w0 w' v' (n + m) ∧ w.grownBy w' v.ownBlock ∧ Nw v.ownBlock w v'.ownBlock ∧ Ext w0 w' := by
  obtain ⟨i, hi, hz, hs1, hby⟩ := info_parts infoV
  obtain ⟨L, hL, hL1, hL2, -⟩ := hO
  have hblk := hL2.lt
  have hLM : ∀ u ∈ L ++ M, u.oneCell' = true := fun u hu => by
    rw [List.mem_append] at hu
    rcases hu with hu | hu
    · exact hL1 u hu
    · exact hM1 u hu
  have h2 := hL2.2
  rcases h2 with ⟨rfl, hl⟩ | ⟨g, cap, cur, rfl, hg, hh, hnc, hcm, hcs, htk⟩
  · subst hl
    have hL' : L = [] := List.eq_nil_of_length_eq_zero hL
    subst hL'
    obtain ⟨v', w', hrun, r1, r2, -⟩ := run_append_own (P := Try.prog) w w.heap.size 88 ty 24 i (.slice none 0 0) 1 24 undV hi hz hs1 hby rfl (by omega) (.slice none 0 0) 0 [] (World.ownsRow_nil _ _ _ _) ad m c M (by omega) hnews hM1 (by unfold maxLen; omega) (by omega) (Nat.le_refl _)
    have r1' := r1.lt
    exact ⟨v', w', hrun, ⟨M, by omega, hM1, ownsRow_mono (by simpa using r1) hE.size, by omega⟩, r2, Or.inr fun k hk => (r1' k hk).1, hE.grown r2 fun k hk => by simp [Value.ownBlock] at hk⟩
  · by_cases hroom : n + m ≤ cap
    · obtain ⟨w', hrun, r1, r2⟩ := run_append_fits (P := Try.prog) w w0.heap.size 88 ty 24 i 1 undV hi hs1 g n cap _ hL2 ad m c M (by omega) hnews hM1 hroom
      exact ⟨_, w', hrun, ⟨L ++ M, by rw [List.length_append]; omega, hLM, r1, by omega⟩, r2, Or.inl rfl, hE.grown r2 fun k hk => by cases hk; exact hg⟩
    · obtain ⟨v', w', hrun, r1, r2⟩ := run_append_arg_grows (P := Try.prog) (w := w) 88 ty 24 i (.slice none 0 0) 1 24 undV hi hz hs1 hby rfl (by omega) ⟨g, 0, none⟩ n cap L (by omega) (by
        intro j u hu
        have hj : j < L.length := (List.getElem?_eq_some_iff.1 hu).1
        rw [Addr.add_lit, Nat.zero_add, World.ownsRow.cellAt hL2 j (by omega)]
        exact hu) ad m c M (by omega) hnews (by omega) (by unfold maxLen; omega) (by omega)
      have r1' := r1.lt
      exact ⟨v', w', hrun, ⟨L ++ M, by rw [List.length_append]; omega, hLM, ownsRow_mono r1 hE.size, by omega⟩, ⟨r2.os, r2.tape, r2.output, r2.size, fun k hk _ => r2.block k hk (by simp)⟩, Or.inr fun k hk => (r1' k hk).1, hE.grown r2 (by simp)⟩
/-- append(s, t...) -/
theorem run_appendsV (ty : TypeId) (w0 w1 w : World) (v u : Value) (n m : Nat) (hO : OwnV w0 w v n) (hI : OwnV w1 w u m) (hE : Ext w0 w) (hn : n + m ≤ 1000000) :
    ∃ v' w', (Builtin.append_ #[88, 88] ty #[v, u]).run Try.prog w = .ok v' w' ∧ OwnV w0 w' v' (n + m) ∧ w.grownBy w' v.ownBlock ∧ Nw v.ownBlock w v'.ownBlock ∧ Ext w0 w' := by
  have hO' := hO
  obtain ⟨i, hi, hz, hs1, hby⟩ := info_parts infoV
  obtain ⟨L, hL, -, hL2, -⟩ := hO
  obtain ⟨M, hM, hM1, hM2, -⟩ := hI
  have hM3 := hM2.2
  rcases hM3 with ⟨rfl, hl⟩ | ⟨g, cap, cur, rfl, hg, hh, hc, r⟩
  · subst hl
    have hrun := run_append_owned_none (P := Try.prog) w w0.heap.size 88 ty 24 i 1 undV hi v n L hL2
    exact ⟨v, w, hrun, hO', ⟨rfl, rfl, rfl, Nat.le_refl _, fun _ _ _ => rfl⟩, Or.inl rfl, hE⟩
  · exact run_appendA ty w0 w v n m cap ⟨g, 0, none⟩ M hO' hM hM1 (fun j x hx => by
      have hj : j < M.length := (List.getElem?_eq_some_iff.1 hx).1
      rw [Addr.add_lit, Nat.zero_add, World.ownsRow.cellAt hM2 j (by omega)]; exact hx) hE hn
section
variable {ops : Array Oper} {rest : List Oper} {o : Oper} {a : Act} {Q : Exit → Act → World → Prop}
theorem step_appendsV {K : Act → World → Prop} {E : Prop} {w : World} (hg : o.guard = none) (s x : Operand) (hop : o.op = Op.call { callee := Callee.builtin Builtin.append, args := #[s, x], argTypes := #[88, 88] })
    (w0 w1 : World) (v u : Value) (n m : Nat) (hO : OwnV w0 w v n) (hI : OwnV w1 w u m) (hE : Ext w0 w) (hn : n + m ≤ 1000000) (hs : a.eval s = v) (hx : a.eval x = u)
    (hK : ∀ v' w', OwnV w0 w' v' (n + m) → Ext w0 w' → K (a.put o.dst v') w') :
    if Region.wanted o (yielded ops a.tmps) = true then Oper.wp Try.prog o a w K Q else E := by
  have hw : Region.wanted o (yielded ops a.tmps) = true := by simp [Region.wanted, hg]
  rw [if_pos hw]
  obtain ⟨v', w', hrun, h1, -, -, h2⟩ := run_appendsV o.type w0 w1 w v u n m hO hI hE hn
  unfold Oper.wp
  simp [execOp, hop, resolve, invoke, builtin, hs, hx, hrun, Result.andThen]
  exact hK v' w' h1 h2
theorem wp_appendsV (hg : o.guard = none) (s x : Operand) (hop : o.op = Op.call { callee := Callee.builtin Builtin.append, args := #[s, x], argTypes := #[88, 88] })
    (w0 w1 w : World) (v u : Value) (n m : Nat) (hO : OwnV w0 w v n) (hI : OwnV w1 w u m) (hE : Ext w0 w) (hn : n + m ≤ 1000000) (hs : a.eval s = v) (hx : a.eval x = u)
    (hK : ∀ v' w', OwnV w0 w' v' (n + m) → Ext w0 w' → wpList Try.prog ops Q rest (a.put o.dst v') w') :
    wpList Try.prog ops Q (o :: rest) a w := by
  obtain ⟨v', w', hrun, h1, -, -, h2⟩ := run_appendsV o.type w0 w1 w v u n m hO hI hE hn
  refine wpList_plain hg fun K hK' => ?_
  unfold Oper.wp
  simp [execOp, hop, resolve, invoke, builtin, hs, hx, hrun, Result.andThen]
  exact hK' _ _ (hK v' w' h1 h2)
/-- append(s, y) -/
theorem wp_append1V (hg : o.guard = none) (s x : Operand) (hop : o.op = Op.call { callee := Callee.builtin Builtin.append, args := #[s, x], argTypes := #[88, 88] })
    (w0 W : World) (v : Value) (n : Nat) (ao : Option Addr) (k c : Nat) (hO : OwnV w0 W v n) (hE : Ext w0 W) (hn : n < 1000000) (hs : a.eval s = v) (hx : a.eval x = .slice (some ⟨W.heap.size, 0, none⟩) 1 1)
    (hK : ∀ v' w', OwnV w0 w' v' (n + 1) → W.grownBy w' v.ownBlock → Nw v.ownBlock W v'.ownBlock → wpList Try.prog ops Q rest (a.put o.dst v') w') :
    wpList Try.prog ops Q (o :: rest) a (W.alloc (.cells #[.slice ao k c] 24)) := by
  have e : Ext W (W.alloc (.cells #[.slice ao k c] 24)) := (Ext.refl W).alloc _
  obtain ⟨v', w', hrun, h1, h2, h3, -⟩ := run_appendA o.type w0 (W.alloc (.cells #[.slice ao k c] 24)) v n 1 1 ⟨W.heap.size, 0, none⟩ [.slice ao k c] (hO.ext e) rfl (by simp [Value.oneCell']) (cell_one_new _ _ _) (hE.alloc _) (by omega)
  refine wpList_plain hg fun K hK' => ?_
  unfold Oper.wp
  simp [execOp, hop, resolve, invoke, builtin, hs, hx, hrun, Result.andThen]
  refine hK' _ _ (hK v' w' h1 ⟨h2.os.trans e.os, h2.tape.trans e.tape, h2.output.trans e.output, Nat.le_trans e.size h2.size, fun k hk hne => ?_⟩ ?_)
  · rw [h2.block k (Nat.lt_of_lt_of_le hk e.size) hne]; exact e.block k hk
  · rcases h3 with h3 | h3
    · exact Or.inl h3
    · exact Or.inr fun k hk => Nat.le_trans e.size (h3 k hk)
/-- append(s, y), as a step of a region that draws -/
theorem step_append1V {K : Act → World → Prop} {E : Prop} {w : World} (hg : o.guard = none) (s x : Operand) (hop : o.op = Op.call { callee := Callee.builtin Builtin.append, args := #[s, x], argTypes := #[88, 88] })
    (w0 : World) (v : Value) (n g : Nat) (ao : Option Addr) (k c : Nat) (hs : a.eval s = v) (hx : a.eval x = .slice (some ⟨g, 0, none⟩) 1 1) (hB : Blk w g 24 #[.slice ao k c]) (hO : OwnV w0 w v n) (hE : Ext w0 w) (hn : n < 1000000)
    (hK : ∀ v' w', OwnV w0 w' v' (n + 1) → w.grownBy w' v.ownBlock → Nw v.ownBlock w v'.ownBlock → K (a.put o.dst v') w') :
    if Region.wanted o (yielded ops a.tmps) = true then Oper.wp Try.prog o a w K Q else E := by
  have hw : Region.wanted o (yielded ops a.tmps) = true := by simp [Region.wanted, hg]
  rw [if_pos hw]
  obtain ⟨v', w', hrun, h1, h2, h3, -⟩ := run_appendA o.type w0 w v n 1 1 ⟨g, 0, none⟩ [.slice ao k c] hO rfl (by simp [Value.oneCell']) (fun j u hu => by
    have hj : j < 1 := by have := (List.getElem?_eq_some_iff.1 hu).1; simpa using this
    have e0 : j = 0 := by omega
    subst e0
    rw [Addr.add_lit, Nat.zero_add]
    exact hB.cell (i := 0) (by simpa using hu)) hE (by omega)
  unfold Oper.wp
  simp [execOp, hop, resolve, invoke, builtin, hs, hx, hrun, Result.andThen]
  exact hK v' w' h1 h2 h3
end
end Go.Zz
