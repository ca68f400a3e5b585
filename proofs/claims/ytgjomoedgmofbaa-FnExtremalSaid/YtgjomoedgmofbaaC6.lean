/- ClaimWord, DivisorsOf, SizeFormula. -/
import Derived.Test.YtgjomoedgmofbaaC3
namespace Go.Zz
open Go.RowKit Go.Proofs
set_option maxHeartbeats 400000


def divTo (n k : Nat) : List Int := ((List.range k).filter (fun d => n % (d + 1) == 0)).map (fun d : Nat => (d : Int) + 1)
theorem divTo_succ (n k : Nat) : divTo n (k + 1) = divTo n k ++ if n % (k + 1) == 0 then [(k : Int) + 1] else [] := by
  unfold divTo
  rw [List.range_succ, List.filter_append, List.map_append]
  congr 1
  cases h : n % (k + 1) == 0 <;> simp [h]
theorem divTo_yes {n k : Nat} (h : n % (k + 1) = 0) : divTo n (k + 1) = divTo n k ++ [(k : Int) + 1] := by rw [divTo_succ]; simp [h]
theorem divTo_no {n k : Nat} (h : ¬ n % (k + 1) = 0) : divTo n (k + 1) = divTo n k := by rw [divTo_succ]; simp [h]
theorem divTo_len (n k : Nat) : (divTo n k).length ≤ k := by
  unfold divTo; rw [List.length_map]; exact Nat.le_trans (List.length_filter_le _ _) (by simp)
theorem divTo_zero (n : Nat) : divTo n 0 = [] := rfl
def divF (n : Int) : List Int := if 1 ≤ n ∧ n ≤ 1000 then divTo n.toNat n.toNat else []
theorem divF_nat {n : Nat} (h1 : 1 ≤ n) (h2 : n ≤ 1000) : divF n = divTo n n := by unfold divF; rw [if_pos (by omega)]; simp
theorem divF_no {n : Int} (h : ¬ (1 ≤ n ∧ n ≤ 1000)) : divF n = [] := by unfold divF; rw [if_neg h]
theorem mod_test {n k : Nat} (h : n % (k + 1) = 0) : ((n : Int) % ((k : Int) + 1) == 0) = true := by
  have e : ((n % (k + 1) : Nat) : Int) = (n : Int) % ((k : Int) + 1) := by simp
  rw [beq_iff_eq, ← e]; omega
theorem mod_test_no {n k : Nat} (h : ¬ n % (k + 1) = 0) : ((n : Int) % ((k : Int) + 1) == 0) = false := by
  have e : ((n % (k + 1) : Nat) : Int) = (n : Int) % ((k : Int) + 1) := by simp
  rw [beq_eq_false_iff_ne, ← e]; omega
--%call DivisorsOf 29 own DivisorsOf_any _ _
theorem DivisorsOf_any (n : Int) (w : World) :
    Calls Try.prog 29 #[.int .i64 n] w fun e w' => ∃ v, e = .returned v ∧ Own 3 w w' v (divF n) ∧ Ext w w' := by
  have hO0 := own_made (TI := 3) (n := 0) (by omega) (Ext.refl w) [] rfl
  have hE0 := (Ext.refl w).alloc (.cells #[] 3)
  by_cases h : 1 ≤ n ∧ n ≤ 1000
  · obtain ⟨m, rfl⟩ := Int.eq_ofNat_of_zero_le (show 0 ≤ n by omega)
    have hm1 : 1 ≤ m := by omega
    have hm2 : m ≤ 1000 := by omega
    have hin := inB_t.2 h
    have He := Lib.hid (divF_nat hm1 hm2)
    clear h
    go_enter Try.func29, Try.ntmps29
    go_wp2_with (first | (go_at_call 110; refine (within_any _ _ _ _).mono ?_; rintro e w' ⟨rfl, rfl⟩))
    go_loopw [3, 4] (fun v d wr => ∃ k : Nat, k ≤ m ∧ d = .int .i64 ((k : Int) + 1) ∧ Own 3 w wr v (divTo m k) ∧ Ext w wr) (fun _ d _ => m + 1 - (intOf d).toNat)
    case atStart => exact ⟨0, by omega, rfl, hO0, hE0⟩
    case round =>
      obtain ⟨k, hk, rfl, hO, hE⟩ := hrel
      have hdl := divTo_len m k
      by_cases hlt : k < m
      · by_cases hd : m % (k + 1) = 0
        · have ht := mod_test hd
          have Hd := Lib.hid hd
          clear hd
          go_wp2_with (at_builtin; refine wp_append1 slI rfl _ _ rfl w _ _ _ _ hO hE (by omega) rfl rfl ?_; intro v1 w1 hO1 hE1)
          go_roundw
          case rel => exact ⟨k + 1, by omega, by go_num, by rw [divTo_yes Hd.out]; exact hO1, hE1⟩
          case measure => (simp [intOf]; omega)
        · have ht := mod_test_no hd
          have Hd := Lib.hid hd
          clear hd
          go_wp2_with fail
          go_roundw
          case rel => exact ⟨k + 1, by omega, by go_num, by rw [divTo_no Hd.out]; exact hO, hE⟩
          case measure => (simp [intOf]; omega)
      · have hkl : k = m := by omega
        subst hkl
        go_wp2_with fail
        go_ret
        exact ⟨_, rfl, by rw [He.out]; exact hO, hE⟩
  · have hin := inB_f.2 h
    have He := Lib.hid (divF_no h)
    clear h
    go_enter Try.func29, Try.ntmps29
    go_wp2_with (first | (go_at_call 110; refine (within_any _ _ _ _).mono ?_; rintro e w' ⟨rfl, rfl⟩))
    go_ret
    exact ⟨_, rfl, by rw [He.out]; exact hO0, hE0⟩
--%call sDivisorsOf 30 own sDivisorsOf_any _ _
theorem sDivisorsOf_any (n : Int) (w : World) :
    Calls Try.prog 30 #[.int .i64 n] w fun e w' => ∃ v, e = .returned v ∧ Own 3 w w' v (divF n) ∧ Ext w w' := by
  have hO0 := own_made (TI := 3) (n := 0) (by omega) (Ext.refl w) [] rfl
  have hE0 := (Ext.refl w).alloc (.cells #[] 3)
  by_cases h : 1 ≤ n ∧ n ≤ 1000
  · obtain ⟨m, rfl⟩ := Int.eq_ofNat_of_zero_le (show 0 ≤ n by omega)
    have hm1 : 1 ≤ m := by omega
    have hm2 : m ≤ 1000 := by omega
    have He := Lib.hid (divF_nat hm1 hm2)
    clear h
    go_enter Try.func30, Try.ntmps30
    go_wp2_with fail
    go_loopw [3, 4] (fun v d wr => ∃ k : Nat, k ≤ m ∧ d = .int .i64 ((k : Int) + 1) ∧ Own 3 w wr v (divTo m k) ∧ Ext w wr) (fun _ d _ => m + 1 - (intOf d).toNat)
    case atStart => exact ⟨0, by omega, rfl, hO0, hE0⟩
    case round =>
      obtain ⟨k, hk, rfl, hO, hE⟩ := hrel
      have hdl := divTo_len m k
      by_cases hlt : k < m
      · by_cases hd : m % (k + 1) = 0
        · have ht := mod_test hd
          have Hd := Lib.hid hd
          clear hd
          go_wp2_with (at_builtin; refine wp_append1 slI rfl _ _ rfl w _ _ _ _ hO hE (by omega) rfl rfl ?_; intro v1 w1 hO1 hE1)
          go_roundw
          case rel => exact ⟨k + 1, by omega, by go_num, by rw [divTo_yes Hd.out]; exact hO1, hE1⟩
          case measure => (simp [intOf]; omega)
        · have ht := mod_test_no hd
          have Hd := Lib.hid hd
          clear hd
          go_wp2_with fail
          go_roundw
          case rel => exact ⟨k + 1, by omega, by go_num, by rw [divTo_no Hd.out]; exact hO, hE⟩
          case measure => (simp [intOf]; omega)
      · have hkl : k = m := by omega
        subst hkl
        go_wp2_with fail
        go_ret
        exact ⟨_, rfl, by rw [He.out]; exact hO, hE⟩
  · have He := Lib.hid (divF_no h)
    by_cases h1 : 1 ≤ n
    · have h2 : ¬ n ≤ 1000 := by omega
      clear h
      go_enter Try.func30, Try.ntmps30
      go_wp2_with fail
      refine wp_loop_rounds 1 ?_
      rw [rounds_succ]
      go_wp2_with fail
      go_ret
      exact ⟨_, rfl, by rw [He.out]; exact hO0, hE0⟩
    · clear h
      go_enter Try.func30, Try.ntmps30
      go_wp2_with fail
      refine wp_loop_rounds 1 ?_
      rw [rounds_succ]
      go_wp2_with fail
      go_ret
      exact ⟨_, rfl, by rw [He.out]; exact hO0, hE0⟩
end Go.Zz
