/- Lines with more parts where something is so; l34Yes. -/
import Derived.Test.YtlegcppncdiijaaC81
namespace Go.Zz
open Go.RowKit Go.Proofs
set_option maxHeartbeats 1000000
set_option maxRecDepth 4000

theorem ownS_one (w : World) (s : ByteArray) : OwnS w (w.alloc (.cells #[.string s] 9)) (.slice (some ⟨w.heap.size, 0, none⟩) 1 1) [s] := by
  have := World.ownsRow_lit (base := w.heap.size) (e := 9) (size := 1) w #[.string s] 1 (Nat.le_refl _) (by unfold maxLen; omega) (by simp)
  exact ⟨by simpa using this, by simp⟩
section
variable {ops : Array Oper} {rest : List Oper} {o : Oper} {a : Act} {Q : Exit → Act → World → Prop}
theorem wp_appendsS (hg : o.guard = none) (s x : Operand) (hop : o.op = Op.call { callee := Callee.builtin Builtin.append, args := #[s, x], argTypes := #[115, 115] })
    (w0 W : World) (v u : Value) (l m : List ByteArray) (hO : OwnS w0 W v l) (hM : Strs W u m) (hE : Ext w0 W) (hm0 : 0 < m.length) (hn : l.length + m.length < 1000000) (hs : a.eval s = v) (hx : a.eval x = u)
    (hK : ∀ v' w', OwnS w0 w' v' (l ++ m) → Ext w0 w' → wpList Try.prog ops Q rest (a.put o.dst v') w') :
    wpList Try.prog ops Q (o :: rest) a W := by
  obtain ⟨i, hi, hz, hs1, hby⟩ := info_parts infoS
  obtain ⟨ao, c, rfl, hlen, hcell⟩ := hM
  obtain ⟨g, rfl, -⟩ := hcell 0 hm0
  refine wpList_append_own _ hg s x 115 hop w0.heap.size 9 i (.string ⟨#[]⟩) 1 16 undS hi hz hs1 hby rfl (by omega) v l.length _ hs hO.1 ⟨g, 0, none⟩ m.length c (m.map Value.string) hx (by simp) ?_ ?_ (by unfold maxLen; omega) (by omega) hE.size ?_
  · intro j u hu
    have hj : j < m.length := by have := (List.getElem?_eq_some_iff.1 hu).1; simpa using this
    obtain ⟨g', hg', hc⟩ := hcell j hj
    simp only [Option.some.injEq, Addr.mk.injEq, and_true] at hg'
    subst hg'
    rw [Addr.add_lit, Nat.zero_add, hc, ← hu]; simp [nthS, List.getD, hj]
  · intro u hu
    obtain ⟨y, _, rfl⟩ := List.mem_map.1 hu
    rfl
  · intro v' w' h1 hg' _
    exact hK v' w' ⟨by simpa using h1, by simp; omega⟩ (hE.grown hg' fun k hk => (hO.blk k hk).1)
end
theorem ifSo_any (s : ByteArray) (b : Bool) (v : Value) (m : List ByteArray) (w : World) (h : Strs w v m) (hs : s.size ≤ 5000) (hm : ∀ i, i < m.length → (nthS m i).size ≤ 5000) (h0 : 0 < m.length) (hn : m.length ≤ 50) :
    Calls Try.prog 111 #[.string s, .bool b, v] w fun e w' => e = .returned (.string (if b then lineF (s :: m) else s)) ∧ Ext w w' := by
  cases b
  · go_enter Try.func111, Try.ntmps111
    go_wp2_with fail
    go_ret
    exact ⟨rfl, Ext.refl _⟩
  · have hE := (Ext.refl w).alloc (.cells #[.string s] 9)
    have hM := h.ext hE
    have hO := ownS_one w s
    have hcL := fun v' W (hv : Strs W v' (s :: m)) => line_any v' (s :: m) W hv (fun i hi => by
      cases i with
      | zero => exact hs
      | succ i => exact hm i (by simpa using hi)) (by simp; omega)
    have hln : [s].length + m.length < 1000000 := by simp; omega
    obtain ⟨ao, c, rfl, -, -⟩ := h
    clear hm hs
    go_enter Try.func111, Try.ntmps111
    go_wp2_with (first | (at_builtin; refine wp_appendsS rfl _ _ rfl w _ _ _ _ _ hO hM hE h0 hln rfl rfl ?_; intro v1 w1 hO1 hE1) | (go_at_call 104; refine (hcL _ _ hO1.strs).mono ?_; rintro e w2 ⟨rfl, rfl⟩))
    go_ret
    exact ⟨rfl, hE1⟩
theorem yes_any (b : Bool) (s : ByteArray) (w : World) :
    Calls Try.prog 98 #[.bool b, .string s] w fun e w' => e = .returned (.string (if b then s else ⟨#[]⟩)) ∧ w = w' := by
  cases b
  · go_enter Try.func98, Try.ntmps98
    go_wp2_with fail
    go_ret
    exact ⟨rfl, rfl⟩
  · go_enter Try.func98, Try.ntmps98
    go_wp2_with fail
    go_ret
    exact ⟨rfl, rfl⟩
theorem bytes_ext {x y : ByteArray} (h : x.data.toList = y.data.toList) : x = y := by
  cases x; cases y; simp only at h; congr 1; exact Array.toList_inj.1 h
theorem data_app (x y : ByteArray) : (x ++ y).data.toList = x.data.toList ++ y.data.toList := by
  rw [ByteArray.data_append]; simp
end Go.Zz
