/- append to a slice that is empty without room, or owned behind a world. -/
import Derived.Test.YtgjomoedgmofbaaRs
namespace Go.Zz
open Go.RowKit Go.Proofs
set_option maxHeartbeats 400000

/-- v is the empty slice []int{} that reads as [], or it is owned in a block from w0 on -/
def OwnE (TI : TypeId) (wb w0 w : World) (v : Value) (l : List Int) : Prop :=
  (∃ g, wb.heap.size ≤ g ∧ v = .slice (some ⟨g, 0, none⟩) 0 0 ∧ l = [] ∧ Blk w g TI #[]) ∨ Own TI w0 w v l
theorem OwnE.ext {TI : TypeId} {wb w0 w w' : World} {v : Value} {l : List Int} (h : OwnE TI wb w0 w v l) (hE : Ext w w') : OwnE TI wb w0 w' v l := by
  rcases h with ⟨g, h0, h1, h2, h3⟩ | h
  · exact Or.inl ⟨g, h0, h1, h2, h3.ext hE⟩
  · exact Or.inr (h.ext hE)
theorem OwnE.own {TI : TypeId} {wb w0 w : World} {v : Value} {l : List Int} (h : OwnE TI wb w0 w v l) (hE : Ext wb w0) : Own TI wb w v l := by
  rcases h with ⟨g, h0, rfl, rfl, h3⟩ | h
  · exact ⟨⟨by simp, Or.inr ⟨g, 0, #[], rfl, h0, h3, Nat.le_refl _, Nat.zero_le _, by simp, by simp⟩⟩, by simp⟩
  · exact h.mono hE
theorem OwnE.start {TI : TypeId} {wb w1 w : World} (w0 : World) (hB : Blk w1 wb.heap.size TI #[]) (hE : Ext w1 w) : OwnE TI wb w0 w (.slice (some ⟨wb.heap.size, 0, none⟩) 0 0) [] := Or.inl ⟨_, Nat.le_refl _, rfl, rfl, hB.ext hE⟩
section
variable {P : Program} {ops : Array Oper} {rest : List Oper} {o : Oper} {a : Act} {Q : Exit → Act → World → Prop} {T TI : TypeId}
theorem wp_append1e (hT : IntSl P T TI) (hg : o.guard = none) (s x : Operand) (hop : o.op = Op.call { callee := Callee.builtin Builtin.append, args := #[s, x], argTypes := #[T, T] })
    (wb w0 W : World) (v : Value) (l : List Int) (y : Int) (hO : OwnE TI wb w0 W v l) (hE : Ext w0 W) (hn : l.length < 17592186044416) (hs : a.eval s = v) (hx : a.eval x = .slice (some ⟨W.heap.size, 0, none⟩) 1 1)
    (hK : ∀ v' w', Own TI w0 w' v' (l ++ [y]) → Ext w0 w' → wpList P ops Q rest (a.put o.dst v') w') :
    wpList P ops Q (o :: rest) a (W.alloc (.cells #[.int .i64 y] TI)) := by
  rcases hO with ⟨g, -, rfl, rfl, hB⟩ | hO
  · obtain ⟨i, hi, hz, hs1, hby⟩ := hT.info
    have hE1 := hE.alloc (.cells #[.int .i64 y] TI)
    obtain ⟨v', w', hrun, r1, r2⟩ := run_append_arg_grows (P := P) (w := W.alloc (.cells #[.int .i64 y] TI)) T o.type TI i (.int .i64 0) 1 8 hT.und hi hz hs1 hby rfl (by omega) ⟨g, 0, none⟩ 0 0 [] (by simp) (by simp) ⟨W.heap.size, 0, none⟩ 1 1 [.int .i64 y] rfl (cell_one_new _ _ _) (by omega) (by unfold maxLen; omega) (by omega)
    refine wpList_plain hg fun K hK' => ?_
    unfold Oper.wp
    simp [execOp, hop, resolve, invoke, builtin, hs, hx, hrun, Result.andThen]
    have hO' : Own TI (W.alloc (.cells #[.int .i64 y] TI)) w' v' [y] := ⟨by simpa using r1, by simp⟩
    exact hK' _ _ (hK _ _ (by simpa using hO'.mono hE1) (hE1.grown r2 (by simp)))
  · exact wp_append1 hT hg s x hop w0 W v l y hO hE hn hs hx hK
end
end Go.Zz
