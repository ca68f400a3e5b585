/- What the laws' own helpers on lists of ints do. -/
import Derived.Test.YtgjomoedgmofbaaC1
namespace Go.Zz
open Go.RowKit Go.Proofs
set_option maxHeartbeats 400000

theorem infoI : (Try.prog.info? 3).map (fun i => (i.zero, i.size, i.bytes)) = some (some (.int .i64 0), 1, 8) := by kernel_rfl
theorem slI : IntSl Try.prog 24 3 := ⟨by kernel_rfl, info_parts infoI⟩

--%call toIntS 32 own toIntS_any _ _ _ ({0})
theorem toIntS_any (v : Value) (l : List Int) (w : World) (h : Ints w v l) :
    Calls Try.prog 32 #[v] w fun e w' => ∃ v', e = .returned v' ∧ Own 3 w w' v' l ∧ Ext w w' := by
  obtain ⟨ao, c, adr, rfl, hlen, hadr, hcell⟩ := h.op
  have hix := ints_index (c := c) elI szI hadr
  clear hadr h
  go_enter Try.func32, Try.ntmps32
  go_wp2_with (at_make; refine wp_make_ints slI rfl _ _ rfl w _ l.length rfl rfl hlen (Ext.refl w) ?_; intro w1 hO hE)
  have hix2 : ∀ (i : Nat) W, i < l.length → (Instr.indexAt 24 (.slice (some ⟨w.heap.size, 0, none⟩) l.length l.length) (.int .i64 (i : Int))).run Try.prog W = .ok (.pointer (some ⟨w.heap.size, i, none⟩)) W := by
    intro i W hi
    rw [run_indexAt_slice (h := elI), if_pos (by omega), szI]
    simp [Result.andThen, Addr.add_lit]
  go_loopw [4] (fun i wr => ∃ k : Nat, k ≤ l.length ∧ i = .int .i64 k ∧ Own 3 w wr (.slice (some ⟨w.heap.size, 0, none⟩) l.length l.length) (l.take k ++ List.replicate (l.length - k) 0) ∧ Ext w wr) (fun i _ => l.length - (intOf i).toNat)
  case atStart => exact ⟨0, by omega, rfl, by simpa using hO, hE⟩
  case round =>
    obtain ⟨k, hk, rfl, hO, hE⟩ := hrel
    by_cases hlt : k < l.length
    · have hck := hcell k _ hlt hE
      have hlen2 : (l.take k ++ List.replicate (l.length - k) (0:Int)).length = l.length := by simp; omega
      obtain ⟨ao', c', hv, -, -, hs⟩ := hO.shape
      obtain ⟨g, hg1, hc1, hf1⟩ := hs k (by omega)
      simp only [Value.slice.injEq] at hv
      obtain ⟨hv1, -, -⟩ := hv
      rw [← hv1] at hg1
      simp only [Option.some.injEq, Addr.mk.injEq, and_true] at hg1
      obtain rfl := hg1
      clear hs hv1
      have Hlen2 := Lib.hid hlen2
      clear hlen2
      go_wp2_with fail
      go_roundw
      case rel =>
        have hO2 := Own.stored (c := l.length) (by rw [Hlen2.out]; exact hO) k (nth l k)
        have e : (l.take k ++ List.replicate (l.length - k) (0:Int)).set k (nth l k) = l.take (k+1) ++ List.replicate (l.length - (k+1)) 0 := by
          rw [take_nth l k hlt, List.set_append_right _ _ (by simp; omega)]
          have e1 : k - (l.take k).length = 0 := by simp; omega
          have e2 : l.length - k = (l.length - (k+1)) + 1 := by omega
          rw [e1, e2, List.replicate_succ]; simp
        rw [e, Hlen2.out] at hO2
        exact ⟨k + 1, by omega, by go_num, hO2, hE.setCell (by simp) _⟩
      case measure => (simp [intOf]; omega)
    · have hkl : k = l.length := by omega
      subst hkl
      rw [List.take_length, Nat.sub_self] at hO
      simp only [List.replicate_zero, List.append_nil] at hO
      go_wp2_with fail
      go_ret
      exact ⟨_, rfl, hO, hE⟩

--%call szIntS 181 same szIntS_any _ _ _ _ ({0}) ({1}) ({2})
def szL (l : List Int) (left : Int) : Int := if left - l.length < 0 then -1 else left - l.length
theorem szIntS_any (v : Value) (l : List Int) (left : Int) (w : World) (h : Ints w v l) (h1 : 0 ≤ left) (h2 : left ≤ 1048576) :
    Calls Try.prog 181 #[v, .int .i64 left] w fun e w' => e = .returned (.int .i64 (szL l left)) ∧ w = w' := by
  obtain ⟨ao, c, adr, rfl, hlen, hadr, hcell⟩ := h.op
  clear hadr hcell h
  by_cases hs : left - l.length < 0
  · go_enter Try.func181, Try.ntmps181
    go_wp2_with fail
    go_ret
    exact ⟨ret_int (by unfold szL; rw [if_pos hs]), rfl⟩
  · go_enter Try.func181, Try.ntmps181
    go_wp2_with fail
    go_ret
    exact ⟨ret_int (by unfold szL; rw [if_neg (by omega)]), rfl⟩

--%call eqIntS 34 ext eqIntS_any _ _ _ _ _ ({0}) ({1})
theorem eqIntS_any (v u : Value) (l m : List Int) (w : World) (h : Ints w v l) (k : Ints w u m) :
    Calls Try.prog 34 #[v, u] w fun e w' => e = .returned (.bool (decide (l = m))) ∧ Ext w w' := by
  obtain ⟨ao, c, adr, rfl, hlen, hadr, hcell⟩ := h.op
  have hix := ints_index (c := c) elI szI hadr
  obtain ⟨ao2, c2, adr2, rfl, hlen2, hadr2, hcell2⟩ := k.op
  have hix2 := ints_index (c := c2) elI szI hadr2
  clear hadr hadr2 h k
  have hE := Ext.refl w
  by_cases hl : l.length = m.length
  · have hl1 : ((l.length : Int) != (m.length : Int)) = false := by simp [hl]
    have Hl := Lib.hid hl
    clear hl
    go_enter Try.func34, Try.ntmps34
    go_wp2_with fail
    go_loopw [5] (fun i wr => ∃ k : Nat, k ≤ l.length ∧ (∀ j, j < k → nth l j = nth m j) ∧ i = .int .i64 k ∧ Ext w wr) (fun i _ => l.length - (intOf i).toNat)
    case atStart => exact ⟨0, by omega, by omega, rfl, hE⟩
    case round =>
      clear hE
      obtain ⟨k, hk, hall, rfl, hE⟩ := hrel
      have Hall := Lib.hid hall
      clear hall
      by_cases hlt : k < l.length
      · have hlt2 : k < m.length := by have := Hl.out; omega
        have hck := fun U => hcell k _ hlt (lat_ext w U)
        have hck2 := fun U => hcell2 k _ hlt2 (lat_ext w U)
        by_cases he : nth l k = nth m k
        · have he1 : (nth l k != nth m k) = false := by simp [he]
          have He := Lib.hid he
          clear he
          go_wp2_with fail
          (refine wp_region_lat (w) (by kernel_rfl) (by kernel_rfl) hE ?_); (repeat (go_big_quiet_step (first | fail))); (refine wpQuiet_nil ?_); (intro W hE'); (replace hE := lat_of hE'); (clear hE')
          go_wp2_with fail
          go_roundw
          case rel => exact ⟨k + 1, by omega, fun j hj => by by_cases e : j = k; (subst e; exact He.out); exact Hall.out j (by omega), by go_num, hE⟩
          case measure => (simp [intOf]; omega)
        · have he1 : (nth l k != nth m k) = true := by simp [he]
          have He := Lib.hid he
          clear he
          go_wp2_with fail
          (refine wp_region_lat (w) (by kernel_rfl) (by kernel_rfl) hE ?_); (repeat (go_big_quiet_step (first | fail))); (refine wpQuiet_nil ?_); (intro W hE'); (replace hE := lat_of hE'); (clear hE')
          go_wp2_with fail
          go_ret
          exact ⟨ret_bool (by symm; rw [decide_eq_false_iff_not]; intro e; exact He.out (by rw [e])), hE⟩
      · have hkl : k = l.length := by omega
        subst hkl
        go_wp2_with fail
        go_ret
        exact ⟨ret_bool (by symm; rw [decide_eq_true_iff]; exact ext_nth Hl.out Hall.out), hE⟩
  · have hl1 : ((l.length : Int) != (m.length : Int)) = true := by simp; omega
    have Hl := Lib.hid hl
    clear hl
    go_enter Try.func34, Try.ntmps34
    go_wp2_with fail
    go_ret
    exact ⟨ret_bool (by symm; rw [decide_eq_false_iff_not]; intro e; exact Hl.out (by rw [e])), hE⟩
--%call slicesEqual 147 ext slicesEqual_any _ _ _ _ _ ({0}) ({1})
theorem slicesEqual_any (v u : Value) (l m : List Int) (w : World) (h : Ints w v l) (k : Ints w u m) :
    Calls Try.prog 147 #[v, u] w fun e w' => e = .returned (.bool (decide (l = m))) ∧ Ext w w' := by
  obtain ⟨ao, c, adr, rfl, hlen, hadr, hcell⟩ := h.op
  have hix := ints_index (c := c) elI szI hadr
  obtain ⟨ao2, c2, adr2, rfl, hlen2, hadr2, hcell2⟩ := k.op
  have hix2 := ints_index (c := c2) elI szI hadr2
  clear hadr hadr2 h k
  have hE := Ext.refl w
  by_cases hl : l.length = m.length
  · have hl1 : ((l.length : Int) != (m.length : Int)) = false := by simp [hl]
    have Hl := Lib.hid hl
    clear hl
    go_enter Try.func147, Try.ntmps147
    go_wp2_with fail
    go_loopw [13] (fun i wr => ∃ k : Nat, k ≤ l.length ∧ (∀ j, j < k → nth l j = nth m j) ∧ i = .int .i64 k ∧ Ext w wr) (fun i _ => l.length - (intOf i).toNat)
    case atStart => exact ⟨0, by omega, by omega, rfl, hE⟩
    case round =>
      clear hE
      obtain ⟨k, hk, hall, rfl, hE⟩ := hrel
      have Hall := Lib.hid hall
      clear hall
      by_cases hlt : k < l.length
      · have hlt2 : k < m.length := by have := Hl.out; omega
        have hck := fun U => hcell k _ hlt (lat_ext w U)
        have hck2 := fun U => hcell2 k _ hlt2 (lat_ext w U)
        by_cases he : nth l k = nth m k
        · have he1 : (nth l k != nth m k) = false := by simp [he]
          have He := Lib.hid he
          clear he
          go_wp2_with fail
          (refine wp_region_lat (w) (by kernel_rfl) (by kernel_rfl) hE ?_); (repeat (go_big_quiet_step (first | fail))); (refine wpQuiet_nil ?_); (intro W hE'); (replace hE := lat_of hE'); (clear hE')
          go_wp2_with fail
          go_roundw
          case rel => exact ⟨k + 1, by omega, fun j hj => by by_cases e : j = k; (subst e; exact He.out); exact Hall.out j (by omega), by go_num, hE⟩
          case measure => (simp [intOf]; omega)
        · have he1 : (nth l k != nth m k) = true := by simp [he]
          have He := Lib.hid he
          clear he
          go_wp2_with fail
          (refine wp_region_lat (w) (by kernel_rfl) (by kernel_rfl) hE ?_); (repeat (go_big_quiet_step (first | fail))); (refine wpQuiet_nil ?_); (intro W hE'); (replace hE := lat_of hE'); (clear hE')
          go_wp2_with fail
          go_ret
          exact ⟨ret_bool (by symm; rw [decide_eq_false_iff_not]; intro e; exact He.out (by rw [e])), hE⟩
      · have hkl : k = l.length := by omega
        subst hkl
        go_wp2_with fail
        go_ret
        exact ⟨ret_bool (by symm; rw [decide_eq_true_iff]; exact ext_nth Hl.out Hall.out), hE⟩
  · have hl1 : ((l.length : Int) != (m.length : Int)) = true := by simp; omega
    have Hl := Lib.hid hl
    clear hl
    go_enter Try.func147, Try.ntmps147
    go_wp2_with fail
    go_ret
    exact ⟨ret_bool (by symm; rw [decide_eq_false_iff_not]; intro e; exact Hl.out (by rw [e])), hE⟩
--%call l30Same 143 ext l30Same_any _ _ _ _ _ ({0}) ({1})
theorem l30Same_any (v u : Value) (l m : List Int) (w : World) (h : Ints w v l) (k : Ints w u m) :
    Calls Try.prog 143 #[v, u] w fun e w' => e = .returned (.bool (decide (l = m))) ∧ Ext w w' := by
  obtain ⟨ao, c, adr, rfl, hlen, hadr, hcell⟩ := h.op
  have hix := ints_index (c := c) elI szI hadr
  obtain ⟨ao2, c2, adr2, rfl, hlen2, hadr2, hcell2⟩ := k.op
  have hix2 := ints_index (c := c2) elI szI hadr2
  clear hadr hadr2 h k
  have hE := Ext.refl w
  by_cases hl : l.length = m.length
  · have hl1 : ((l.length : Int) != (m.length : Int)) = false := by simp [hl]
    have Hl := Lib.hid hl
    clear hl
    go_enter Try.func143, Try.ntmps143
    go_wp2_with fail
    go_loopw [5] (fun i wr => ∃ k : Nat, k ≤ l.length ∧ (∀ j, j < k → nth l j = nth m j) ∧ i = .int .i64 k ∧ Ext w wr) (fun i _ => l.length - (intOf i).toNat)
    case atStart => exact ⟨0, by omega, by omega, rfl, hE⟩
    case round =>
      clear hE
      obtain ⟨k, hk, hall, rfl, hE⟩ := hrel
      have Hall := Lib.hid hall
      clear hall
      by_cases hlt : k < l.length
      · have hlt2 : k < m.length := by have := Hl.out; omega
        have hck := fun U => hcell k _ hlt (lat_ext w U)
        have hck2 := fun U => hcell2 k _ hlt2 (lat_ext w U)
        by_cases he : nth l k = nth m k
        · have he1 : (nth l k != nth m k) = false := by simp [he]
          have He := Lib.hid he
          clear he
          go_wp2_with fail
          (refine wp_region_lat (w) (by kernel_rfl) (by kernel_rfl) hE ?_); (repeat (go_big_quiet_step (first | fail))); (refine wpQuiet_nil ?_); (intro W hE'); (replace hE := lat_of hE'); (clear hE')
          go_wp2_with fail
          go_roundw
          case rel => exact ⟨k + 1, by omega, fun j hj => by by_cases e : j = k; (subst e; exact He.out); exact Hall.out j (by omega), by go_num, hE⟩
          case measure => (simp [intOf]; omega)
        · have he1 : (nth l k != nth m k) = true := by simp [he]
          have He := Lib.hid he
          clear he
          go_wp2_with fail
          (refine wp_region_lat (w) (by kernel_rfl) (by kernel_rfl) hE ?_); (repeat (go_big_quiet_step (first | fail))); (refine wpQuiet_nil ?_); (intro W hE'); (replace hE := lat_of hE'); (clear hE')
          go_wp2_with fail
          go_ret
          exact ⟨ret_bool (by symm; rw [decide_eq_false_iff_not]; intro e; exact He.out (by rw [e])), hE⟩
      · have hkl : k = l.length := by omega
        subst hkl
        go_wp2_with fail
        go_ret
        exact ⟨ret_bool (by symm; rw [decide_eq_true_iff]; exact ext_nth Hl.out Hall.out), hE⟩
  · have hl1 : ((l.length : Int) != (m.length : Int)) = true := by simp; omega
    have Hl := Lib.hid hl
    clear hl
    go_enter Try.func143, Try.ntmps143
    go_wp2_with fail
    go_ret
    exact ⟨ret_bool (by symm; rw [decide_eq_false_iff_not]; intro e; exact Hl.out (by rw [e])), hE⟩

/-! ### marks: numbers that are written and found again -/
def marks (k : Int) (n : Nat) : List Int := (List.range n).map (fun i : Nat => k + (i : Int))
theorem marks_len (k : Int) (n : Nat) : (marks k n).length = n := by simp [marks]
theorem nth_marks {k : Int} {n i : Nat} (h : i < n) : nth (marks k n) i = k + i := by simp [nth, marks, List.getD, h]
theorem marks_set {k : Int} {j : Nat} {l : List Int} (h : j < l.length) : (marks k j ++ l.drop j).set j (k + j) = marks k (j + 1) ++ l.drop (j + 1) := by
  rw [List.set_append_right _ _ (by simp [marks_len]), marks_len, Nat.sub_self, List.drop_eq_getElem_cons h, List.set_cons_zero]
  simp [marks, List.range_succ]

theorem Own.stored_grown {TI : TypeId} {w0 w : World} {g c n : Nat} {l : List Int} (h : Own TI w0 w (.slice (some ⟨g, 0, none⟩) n c) l) (hn : l.length = n) (j : Nat) (y : Int) :
    Own TI w0 (w.setCell ⟨g, j, none⟩ (.int .i64 y)) (.slice (some ⟨g, 0, none⟩) n c) (l.set j y) ∧ w.grownBy (w.setCell ⟨g, j, none⟩ (.int .i64 y)) (some g) := by
  subst hn
  exact ⟨h.stored j y, (World.ownsRow.stored h.1 j (.int .i64 y)).2⟩
theorem grownBy_trans {a b c : World} {row : Option Nat} (h : a.grownBy b row) (k : b.grownBy c row) : a.grownBy c row :=
  ⟨k.os.trans h.os, k.tape.trans h.tape, k.output.trans h.output, Nat.le_trans h.size k.size, fun i hi hne => (k.block i (Nat.lt_of_lt_of_le hi h.size) hne).trans (h.block i hi hne)⟩


end Go.Zz
