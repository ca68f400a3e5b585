/- Slices of strings that a call makes; glued. -/
import Derived.Test.YtlegcppncdiijaaC58
namespace Go.Zz
open Go.RowKit Go.Proofs
set_option maxHeartbeats 400000
set_option maxRecDepth 4000

theorem infoS : (Try.prog.info? 9).map (fun i => (i.zero, i.size, i.bytes)) = some (some (.string ⟨#[]⟩), 1, 16) := by kernel_rfl
theorem undS : Try.prog.underlying 115 = some (.slice 9) := by kernel_rfl
theorem elS : Try.prog.underlying 115 = some (.slice (Try.prog.elem 115)) := by kernel_rfl
theorem szS : ∀ w, (Go.sizeOf (Try.prog.elem 115)).run Try.prog w = .ok 1 w := fun w => by kernel_rfl
def nthS (l : List ByteArray) (i : Nat) : ByteArray := l.getD i ⟨#[]⟩
/-- v is a slice of strings of the call's own, which reads as l -/
def OwnS (w0 w : World) (v : Value) (l : List ByteArray) : Prop :=
  w.ownsRow w0.heap.size 9 1 v l.length (l.map Value.string) ∧ l.length ≤ 1000000
theorem OwnS.blk {w0 w : World} {v : Value} {l : List ByteArray} (h : OwnS w0 w v l) : ∀ k, v.ownBlock = some k → w0.heap.size ≤ k ∧ k < w.heap.size := h.1.lt
theorem OwnS.alloc {w0 w : World} {v : Value} {l : List ByteArray} (h : OwnS w0 w v l) (o : Obj) : OwnS w0 (w.alloc o) v l := ⟨h.1.alloc o, h.2⟩
theorem OwnS.ext {w0 w w' : World} {v : Value} {l : List ByteArray} (h : OwnS w0 w v l) (hE : Ext w w') : OwnS w0 w' v l := by
  refine ⟨h.1.kept (row := none) ⟨hE.os, hE.tape, hE.output, hE.size, fun k hk _ => hE.block k hk⟩ ?_, h.2⟩
  cases hv : v.ownBlock <;> simp
theorem ownS_made {w0 w : World} (hE : Ext w0 w) : OwnS w0 (w.alloc (.cells #[] 9)) (.slice (some ⟨w.heap.size, 0, none⟩) 0 0) [] := by
  have := World.ownsRow_lit (base := w0.heap.size) (e := 9) (size := 1) w #[] 0 hE.size (by unfold maxLen; omega) (by simp)
  exact ⟨by simpa using this, by simp⟩
/-- v is a slice that reads as the strings of l -/
def Strs (w : World) (v : Value) (l : List ByteArray) : Prop :=
  ∃ (ao : Option Addr) (c : Nat), v = .slice ao l.length c ∧ l.length ≤ 1000000 ∧ ∀ i, i < l.length → ∃ g, ao = some ⟨g, 0, none⟩ ∧ w.cell? ⟨g, i, none⟩ = some (.string (nthS l i))
theorem OwnS.strs {w0 w : World} {v : Value} {l : List ByteArray} (h : OwnS w0 w v l) : Strs w v l := by
  obtain ⟨h1, h2⟩ := h
  rcases h1.2 with ⟨rfl, hl⟩ | ⟨g, cap, cur, rfl, hg, hh, hc, r⟩
  · exact ⟨none, 0, by rw [hl], h2, by omega⟩
  · refine ⟨some ⟨g, 0, none⟩, cap, rfl, h2, fun i hi => ⟨g, rfl, ?_⟩⟩
    rw [World.ownsRow.cellAt h1 i (by omega)]
    simp [nthS, List.getD, hi]
section
variable {ops : Array Oper} {rest : List Oper} {o : Oper} {a : Act} {Q : Exit → Act → World → Prop}
theorem wp_append1S (hg : o.guard = none) (s x : Operand) (hop : o.op = Op.call { callee := Callee.builtin Builtin.append, args := #[s, x], argTypes := #[115, 115] })
    (w0 W : World) (v : Value) (l : List ByteArray) (y : ByteArray) (hO : OwnS w0 W v l) (hE : Ext w0 W) (hn : l.length < 1000000) (hs : a.eval s = v) (hx : a.eval x = .slice (some ⟨W.heap.size, 0, none⟩) 1 1)
    (hK : ∀ v' w', OwnS w0 w' v' (l ++ [y]) → Ext w0 w' → wpList Try.prog ops Q rest (a.put o.dst v') w') :
    wpList Try.prog ops Q (o :: rest) a (W.alloc (.cells #[.string y] 9)) := by
  obtain ⟨i, hi, hz, hs1, hby⟩ := info_parts infoS
  refine wpList_append_own _ hg s x 115 hop w0.heap.size 9 i (.string ⟨#[]⟩) 1 16 undS hi hz hs1 hby rfl (by omega) v l.length _ hs (hO.alloc _).1 ⟨W.heap.size, 0, none⟩ 1 1 [.string y] hx rfl ?_ (by simp [Value.oneCell']) (by unfold maxLen; omega) (by omega) (by have := hE.size; simp; omega) ?_
  · exact cell_one_new _ _ _
  · intro v' w' h1 hg' _
    have hE1 := hE.alloc (.cells #[.string y] 9)
    refine hK v' w' ⟨by simpa using h1, by simp; omega⟩ (hE1.grown hg' fun k hk => (hO.blk k hk).1)
end
theorem glued_any (v : Value) (l : List ByteArray) (s : ByteArray) (w : World) (h : Strs w v l) (hs : s.size ≤ 1) (hl : ∀ i, i < l.length → (nthS l i).size ≤ 13) :
    Calls Try.prog 198 #[v, .string s] w fun e w' => e = .returned (.string (jn s (nthS l) l.length)) ∧ w = w' := by
  obtain ⟨ao, c, rfl, hlen, hcell⟩ := h
  have hix : ∀ (i : Nat) W, i < l.length → ∃ g, ao = some ⟨g, 0, none⟩ ∧ (Instr.indexAt 115 (.slice ao l.length c) (.int .i64 (i : Int))).run Try.prog W = .ok (.pointer (some ⟨g, i, none⟩)) W := by
    intro i W hi
    obtain ⟨g, rfl, -⟩ := hcell i hi
    refine ⟨g, rfl, ?_⟩
    rw [run_indexAt_slice (h := elS), if_pos (by omega), szS]
    simp [Result.andThen, Addr.add_lit]
  have Hl := Lib.hid hl
  clear hl
  go_enter Try.func198, Try.ntmps198
  go_wp2_with fail
  go_loop [5, 10] (fun t i => ∃ (k : Nat) (u : ByteArray), k ≤ l.length ∧ i = .int .i64 k ∧ t = .string u ∧ Hid (u = jn s (nthS l) k)) (fun _ i => l.length - (intOf i).toNat)
  case atStart => exact ⟨0, _, by omega, rfl, rfl, Lib.hid rfl⟩
  case round =>
    obtain ⟨k, u, hk, rfl, rfl, Hu⟩ := hrel
    have hus : u.size ≤ 14 * k := by rw [Hu.out]; exact jn_size _ _ hs k fun i hi => Hl.out i (by omega)
    by_cases hlt : k < l.length
    · obtain ⟨g, hg, hix1⟩ := hix k w hlt
      obtain ⟨g', hg', hck⟩ := hcell k hlt
      have hgg : g' = g := by rw [hg] at hg'; simp only [Option.some.injEq, Addr.mk.injEq, and_true] at hg'; exact hg'.symm
      subst hgg
      clear hix hcell
      subst hg
      have hys := Hl.out k hlt
      obtain ⟨y, hy⟩ : ∃ y, y = nthS l k := ⟨_, rfl⟩
      rw [← hy] at hck hys
      have Hy := Lib.hid hy
      clear hy
      by_cases hk0 : 0 < k
      · have hk1 : (0:Int) < k := by omega
        go_wp2_with fail
        go_round
        case rel => exact ⟨k + 1, _, by omega, by go_num, rfl, Lib.hid (by rw [jn_next _ _ hk0, ← Hu.out, Hy.out])⟩
        case measure => (simp [intOf]; omega)
      · have hk1 : k = 0 := by omega
        subst hk1
        go_wp2_with fail
        go_round
        case rel => exact ⟨1, _, by omega, rfl, rfl, Lib.hid (by rw [jn_first, Hu.out, Hy.out]; rfl)⟩
        case measure => (simp [intOf]; omega)
    · have hkl : k = l.length := by omega
      subst hkl
      clear hix hcell
      go_wp2_with fail
      go_ret
      exact ⟨ret_str Hu.out, rfl⟩
end Go.Zz
