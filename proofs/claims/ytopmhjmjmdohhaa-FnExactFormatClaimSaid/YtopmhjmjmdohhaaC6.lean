/- ClaimWord, DivisorsOf, SizeFormula. -/
import Derived.Test.YtopmhjmjmdohhaaC3
namespace Go.Zz
open Go.RowKit Go.Proofs
set_option maxHeartbeats 400000

def cwB (k : Int) : ByteArray :=
  if k = 1 then ⟨#[115, 117, 109]⟩ else if k = 2 then ⟨#[122, 101, 114, 111]⟩ else if k = 3 then ⟨#[102, 114, 101, 101]⟩ else if k = 4 then ⟨#[116, 105, 108, 101]⟩
  else if k = 5 then ⟨#[97, 108, 105, 107, 101]⟩ else if k = 6 then ⟨#[99, 111, 108, 111, 114, 115]⟩ else if k = 7 then ⟨#[99, 111, 115, 101, 116]⟩ else ⟨#[]⟩
--%call ClaimWord 72 ext ClaimWord_any _ _
theorem ClaimWord_any (k : Int) (w : World) :
    Calls Try.prog 72 #[.int .i64 k] w fun e w' => e = .returned (.string (cwB k)) ∧ Ext w w' := by
  by_cases h : 1 ≤ k ∧ k ≤ 7
  · have hin := inB_t.2 h
    have hE := Ext.refl w
    rcases (by omega : k = 1 ∨ k = 2 ∨ k = 3 ∨ k = 4 ∨ k = 5 ∨ k = 6 ∨ k = 7) with rfl | rfl | rfl | rfl | rfl | rfl | rfl
    all_goals
      go_enter Try.func72, Try.ntmps72
      go_wp2_with (first | (go_at_call 81; refine (within_any _ _ _ _).mono ?_; rintro e w' ⟨rfl, rfl⟩))
      go_ret
      exact ⟨rfl, hE.alloc _⟩
  · have hin := inB_f.2 h
    have e : cwB k = ⟨#[]⟩ := by unfold cwB; rw [if_neg (by omega), if_neg (by omega), if_neg (by omega), if_neg (by omega), if_neg (by omega), if_neg (by omega), if_neg (by omega)]
    have He := Lib.hid e
    clear e
    go_enter Try.func72, Try.ntmps72
    go_wp2_with (first | (go_at_call 81; refine (within_any _ _ _ _).mono ?_; rintro e w' ⟨rfl, rfl⟩))
    go_ret
    exact ⟨ret_str He.out.symm, Ext.refl w⟩
--%call sClaimWord 68 ext sClaimWord_any _ _
theorem sClaimWord_any (k : Int) (w : World) :
    Calls Try.prog 68 #[.int .i64 k] w fun e w' => e = .returned (.string (cwB k)) ∧ Ext w w' := by
  by_cases h : 1 ≤ k ∧ k ≤ 7
  · have hin := inB_t.2 h
    have hE := Ext.refl w
    rcases (by omega : k = 1 ∨ k = 2 ∨ k = 3 ∨ k = 4 ∨ k = 5 ∨ k = 6 ∨ k = 7) with rfl | rfl | rfl | rfl | rfl | rfl | rfl
    all_goals
      go_enter Try.func68, Try.ntmps68
      go_wp2_with (first | (go_at_call 79; refine (l1In_any _ _ _ _).mono ?_; rintro e w' ⟨rfl, rfl⟩))
      go_ret
      exact ⟨rfl, hE.alloc _⟩
  · have hin := inB_f.2 h
    have e : cwB k = ⟨#[]⟩ := by unfold cwB; rw [if_neg (by omega), if_neg (by omega), if_neg (by omega), if_neg (by omega), if_neg (by omega), if_neg (by omega), if_neg (by omega)]
    have He := Lib.hid e
    clear e
    go_enter Try.func68, Try.ntmps68
    go_wp2_with (first | (go_at_call 79; refine (l1In_any _ _ _ _).mono ?_; rintro e w' ⟨rfl, rfl⟩))
    go_ret
    exact ⟨ret_str He.out.symm, Ext.refl w⟩

end Go.Zz
