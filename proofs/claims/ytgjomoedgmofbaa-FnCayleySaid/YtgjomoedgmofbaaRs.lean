/- Results that lie in memory: the block of a result, and what is stored there. -/
import Derived.Test.YtgjomoedgmofbaaC3
import Derived.Deep.RegionHeld3
import Derived.Deep.RegionWith
import Derived.Deep.RegionLaw
namespace Go.Zz
open Go.RowKit Go.Proofs
set_option maxHeartbeats 400000

/-- what a cell holds, closed to simp -/
def At (W : World) (a : Addr) : Value := (W.cell? a).getD (.int .i64 0)
/-- the first n cells of a block are there and may be written -/
def Res (W : World) (r n : Nat) : Prop := ∀ i, i < n → W.cell? ⟨r, i, none⟩ = some (At W ⟨r, i, none⟩) ∧ W.frozen? ⟨r, i, none⟩ = false
theorem At_of {W : World} {a : Addr} {v : Value} (h : W.cell? a = some v) : At W a = v := by unfold At; rw [h]; rfl
theorem Res.ext {W W' : World} {r n : Nat} (h : Res W r n) (hE : Ext W W') : Res W' r n := fun i hi => by
  obtain ⟨h1, h2⟩ := h i hi
  have h3 := hE.cell h1
  exact ⟨by rw [At_of h3]; exact h3, by rw [Below.frozen hE (World.block_lt_of_cell? W _ h1), h2]⟩
theorem Res.drew {W : World} {r n : Nat} (h : Res W r n) : Res W.drew r n := h.ext ((Ext.refl W).drew)
theorem Blk.res {W : World} {r : Nat} {T : TypeId} {cs : Array Value} (h : Blk W r T cs) {n : Nat} (hn : n ≤ cs.size) : Res W r n := fun i hi => by
  have h1 : W.cell? ⟨r, i, none⟩ = some (cs[i]'(by omega)) := h.cell (by simp)
  exact ⟨by rw [At_of h1]; exact h1, h.free i⟩
theorem Res.setCell {W : World} {r n : Nat} (h : Res W r n) (p : Addr) (x : Value) : Res (W.setCell p x) r n := fun i hi => by
  obtain ⟨h1, h2⟩ := h i hi
  obtain ⟨v', hv⟩ := cell?_setCell_some (w := W) (p := p) (x := x) h1
  exact ⟨by rw [At_of hv]; exact hv, by rw [World.frozen?_setCell, h2]⟩
theorem Blk.new' {w : World} {T : TypeId} {cs : Array Value} {b : Nat} (h : w.heap.size = b) : Blk (w.alloc (.cells cs T)) b T cs := by subst h; exact Blk.new _ _ _
theorem Blk.free_of {W : World} {r : Nat} {T : TypeId} {cs : Array Value} (h : Blk W r T cs) : ∀ i, W.frozen? ⟨r, i, none⟩ = false := h.free
theorem Calls.sh {P : Program} {f : FuncId} {args : Array Value} {TI : TypeId} {w : World} {L : List Int} (h : Calls P f args w fun e w' => ∃ v, e = .returned v ∧ Own TI w w' v L ∧ Ext w w') :
    Calls P f args w fun e w' => ∃ ao c, e = .returned (.slice ao L.length c) ∧ Own TI w w' (.slice ao L.length c) L ∧ Ext w w' :=
  h.mono fun e w' ⟨v, he, hO, hE⟩ => by
    obtain ⟨ao, c, rfl, -⟩ := hO.shape
    exact ⟨ao, c, he, hO, hE⟩
/-- append([]int{}, xs...) as a step of a region that draws its order -/
theorem step_copy {P : Program} {ops : Array Oper} {o : Oper} {a : Act} {w : World} {K : Act → World → Prop} {Q : Exit → Act → World → Prop} {E : Prop} {T TI : TypeId} (hT : IntSl P T TI)
    (hg : o.guard = none) (s x : Operand) (hop : o.op = Op.call { callee := Callee.builtin Builtin.append, args := #[s, x], argTypes := #[T, T] })
    (g : Nat) (u : Value) (m : List Int) (hs : a.eval s = .slice (some ⟨g, 0, none⟩) 0 0) (hx : a.eval x = u) (hB : Blk w g TI #[]) (hI : Ints w u m) (w0 : World) (h0 : w0.heap.size ≤ g) (hE : Ext w0 w)
    (hK : ∀ ao c w', Own TI w0 w' (.slice ao m.length c) m → Ext w w' → K (a.put o.dst (.slice ao m.length c)) w') :
    if Region.wanted o (yielded ops a.tmps) = true then Oper.wp P o a w K Q else E := by
  have hw : Region.wanted o (yielded ops a.tmps) = true := by simp [Region.wanted, hg]
  rw [if_pos hw]
  obtain ⟨i, hi, hz, hs1, hby⟩ := hT.info
  have hown : w.ownsRow w0.heap.size TI 1 (.slice (some ⟨g, 0, none⟩) 0 0) 0 [] := by
    have hB' : w.heap[g]? = some (.cells #[] TI (0, 0)) := hB
    exact ⟨by simp, Or.inr ⟨g, 0, #[], rfl, h0, hB', Nat.le_refl _, Nat.zero_le _, by simp, by simp⟩⟩
  obtain ⟨ao, c, rfl, hmc, hml, hc⟩ := hI
  have key : m = [] → Oper.wp P o a w K Q := by
    intro hm
    subst hm
    have hrun2 : (Builtin.append_ #[T, T] o.type #[.slice (some ⟨g, 0, none⟩) 0 0, .slice ao 0 c]).run P w = .ok (.slice (some ⟨g, 0, none⟩) 0 0) w := by
      have hrun := run_append_owned_none (P := P) w w0.heap.size T o.type TI i 1 hT.und hi (.slice (some ⟨g, 0, none⟩) 0 0) 0 [] hown
      rw [← hrun]; cases ao <;> simp [Builtin.append_, run_underlying hT.und, sizeOf, typeInfo, hi, Builtin.lenOf, Builtin.firstCells, go_sem]
    unfold Oper.wp
    simp [execOp, hop, resolve, invoke, builtin, hs, hx, hrun2, Result.andThen]
    exact hK (some ⟨g, 0, none⟩) 0 _ ⟨by simpa using hown, by simp⟩ (Ext.refl w)
  by_cases hm : m = []
  · exact key hm
  · have hpos : 0 < m.length := Nat.pos_of_ne_zero (fun e => hm (List.eq_nil_of_length_eq_zero e))
    cases ao with
    | none => obtain ⟨_, h, _⟩ := hc 0 hpos; cases h
    | some ad =>
      obtain ⟨v', w', hrun, r1, r2⟩ := run_append_arg_grows (P := P) (w := w) T o.type TI i (.int .i64 0) 1 8 hT.und hi hz hs1 hby rfl (by omega) ⟨g, 0, none⟩ 0 0 [] (by simp) (by simp) ad m.length c (m.map (Value.int .i64)) (by simp) (by
        intro j u hu
        have hj : j < m.length := by have := (List.getElem?_eq_some_iff.1 hu).1; simpa using this
        obtain ⟨a', ha', hc'⟩ := hc j hj
        cases ha'
        rw [hc', ← hu, nth_get _ _ hj]; simp [hj]) (by omega) (by unfold maxLen; omega) (by omega)
      unfold Oper.wp
      simp [execOp, hop, resolve, invoke, builtin, hs, hx, hrun, Result.andThen]
      have hO' : Own TI w w' v' m := ⟨by simpa using r1, hml⟩
      obtain ⟨ao', c', rfl, -⟩ := hO'.shape
      exact hK ao' c' w' (hO'.mono hE) ((Ext.refl w).grown r2 (by simp))
end Go.Zz
