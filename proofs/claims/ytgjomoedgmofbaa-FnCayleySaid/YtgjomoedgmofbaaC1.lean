/- What the functions on groups and counts return: first part. -/
import Derived.Test.YtgjomoedgmofbaaProg
import Derived.Test.YtgjomoedgmofbaaBa
namespace Go.Zz
open Go.RowKit Go.Proofs
set_option maxHeartbeats 400000

theorem elI : Try.prog.underlying 24 = some (.slice (Try.prog.elem 24)) := by kernel_rfl
theorem szI : ∀ w, (sizeOf (Try.prog.elem 24)).run Try.prog w = .ok 1 w := fun w => by kernel_rfl

--%call within 110 same within_any _ _ _ _
theorem within_any (x lo hi : Int) (w : World) :
    Calls Try.prog 110 #[.int .i64 x, .int .i64 lo, .int .i64 hi] w fun e w' => e = .returned (.bool (inB x lo hi)) ∧ w = w' := by
  go_enter Try.func110, Try.ntmps110
  go_wp2
  all_goals (go_ret; refine ⟨?_, rfl⟩; unfold inB; congr 2; simp; omega)
--%call l1In 116 same l1In_any _ _ _ _
theorem l1In_any (x lo hi : Int) (w : World) :
    Calls Try.prog 116 #[.int .i64 x, .int .i64 lo, .int .i64 hi] w fun e w' => e = .returned (.bool (inB x lo hi)) ∧ w = w' := by
  go_enter Try.func116, Try.ntmps116
  go_wp2
  all_goals (go_ret; refine ⟨?_, rfl⟩; unfold inB; congr 2; simp; omega)

--%call IsGroup 109 ext IsGroup_any _ _ _ ({0})
theorem IsGroup_any (v : Value) (l : List Int) (w : World) (h : Ints w v l) :
    Calls Try.prog 109 #[.agg #[v]] w fun e w' => e = .returned (.bool (isGrp l)) ∧ Ext w w' := by
  obtain ⟨ao, c, adr, rfl, hlen, hadr, hcell⟩ := h.op
  have hix := ints_index (c := c) elI szI hadr
  clear hadr h
  have hE0 := (Ext.refl w).alloc (.cells #[.slice ao l.length c] 26)
  by_cases h3 : l.length ≤ 3
  · go_enter Try.func109, Try.ntmps109
    go_wp2_with fail
    go_loop [3, 13] (fun n i => ∃ k : Nat, k ≤ l.length ∧ (∀ j, j < k → 2 ≤ nth l j ∧ nth l j ≤ 24) ∧ n = .int .i64 (prodL (l.take k)) ∧ i = .int .i64 k) (fun _ i => l.length - (intOf i).toNat)
    case atStart => exact ⟨0, by omega, by omega, rfl, rfl⟩
    case round =>
      obtain ⟨k, hk, hall, rfl, rfl⟩ := hrel
      obtain ⟨hb0, hb1⟩ := prodL_bd3 k l hk (by omega) hall
      by_cases hlt : k < l.length
      · have hck := hcell k _ hlt hE0
        by_cases hin : 2 ≤ nth l k ∧ nth l k ≤ 24
        · have hin' := inB_t.2 hin
          obtain ⟨hm1, hm2⟩ := mul_fits hb0 hb1 hin.1 hin.2
          go_wp2_with (first | (go_at_call 110; refine (within_any _ _ _ _).mono ?_; rintro e w' ⟨rfl, rfl⟩))
          go_round
          case rel => exact ⟨k + 1, by omega, fun j hj => by by_cases e : j = k; (subst e; exact hin); exact hall j (by omega), by rw [prodL_take l k hlt], by go_num⟩
          case measure => (simp [intOf]; omega)
        · have hin' := inB_f.2 hin
          go_wp2_with (first | (go_at_call 110; refine (within_any _ _ _ _).mono ?_; rintro e w' ⟨rfl, rfl⟩))
          go_ret
          exact ⟨ret_bool (isGrp_no_nth hlt hin).symm, hE0⟩
      · have hkl : k = l.length := by omega
        have hend := Lib.hid (isGrp_end h3 (fun j hj => hall j (by omega)))
        clear hall
        subst hkl
        rw [List.take_length] at *
        go_wp2_with fail
        go_ret
        exact ⟨ret_bool hend.out.symm, hE0⟩
  · go_enter Try.func109, Try.ntmps109
    go_wp2_with fail
    go_ret
    exact ⟨ret_bool (isGrp_no_len (by omega)).symm, hE0⟩

--%call sIsGroup 114 ext sIsGroup_any _ _ _ ({0})
theorem sIsGroup_any (v : Value) (l : List Int) (w : World) (h : Ints w v l) :
    Calls Try.prog 114 #[.agg #[v]] w fun e w' => e = .returned (.bool (isGrp l)) ∧ Ext w w' := by
  obtain ⟨ao, c, adr, rfl, hlen, hadr, hcell⟩ := h.op
  have hix := ints_index (c := c) elI szI hadr
  clear hadr h
  have hE0 := (Ext.refl w).alloc (.cells #[.slice ao l.length c] 26)
  go_enter Try.func114, Try.ntmps114
  go_wp2_with fail
  go_loop [3, 4] (fun n i => ∃ k : Nat, k ≤ l.length ∧ k ≤ 3 ∧ (∀ j, j < k → 2 ≤ nth l j ∧ nth l j ≤ 24) ∧ n = .int .i64 (prodL (l.take k)) ∧ i = .int .i64 k) (fun _ i => l.length - (intOf i).toNat)
  case atStart => exact ⟨0, by omega, by omega, by omega, rfl, rfl⟩
  case round =>
    obtain ⟨k, hk, hk3, hall, rfl, rfl⟩ := hrel
    obtain ⟨hb0, hb1⟩ := prodL_bd3 k l hk hk3 hall
    by_cases hlt : k < l.length
    · have hck := hcell k _ hlt hE0
      by_cases hin : 2 ≤ nth l k ∧ nth l k ≤ 24
      · have hin' := inB_t.2 hin
        obtain ⟨hm1, hm2⟩ := mul_fits hb0 hb1 hin.1 hin.2
        by_cases h3 : k < 3
        · go_wp2_with (first | (go_at_call 116; refine (l1In_any _ _ _ _).mono ?_; rintro e w' ⟨rfl, rfl⟩))
          go_round
          case rel => exact ⟨k + 1, by omega, by omega, fun j hj => by by_cases e : j = k; (subst e; exact hin); exact hall j (by omega), by rw [prodL_take l k hlt], by go_num⟩
          case measure => (simp [intOf]; omega)
        · go_wp2_with (first | (go_at_call 116; refine (l1In_any _ _ _ _).mono ?_; rintro e w' ⟨rfl, rfl⟩))
          go_ret
          exact ⟨ret_bool (isGrp_no_len (by omega)).symm, hE0⟩
      · have hin' := inB_f.2 hin
        go_wp2_with (first | (go_at_call 116; refine (l1In_any _ _ _ _).mono ?_; rintro e w' ⟨rfl, rfl⟩))
        go_ret
        exact ⟨ret_bool (isGrp_no_nth hlt hin).symm, hE0⟩
    · have hkl : k = l.length := by omega
      have hend := Lib.hid (isGrp_end (by omega) (fun j hj => hall j (by omega)))
      clear hall
      subst hkl
      rw [List.take_length] at *
      go_wp2_with fail
      go_ret
      exact ⟨ret_bool hend.out.symm, hE0⟩
end Go.Zz
