/- Cosets of small doubling. -/
import Derived.Test.YtopmhjmjmdohhaaC23
namespace Go.Zz
open Go.RowKit Go.Proofs
set_option maxHeartbeats 400000

def scD (l : List Int) (a : Int) : Int := if smallF l a then (sumF l a.toNat (oppF l a.toNat) : Int) else 0
def scS (l : List Int) (a : Int) : Int := if smallF l a then (sumF l a.toNat (sumF l a.toNat (oppF l a.toNat)) : Int) else 0
theorem sc_no {l : List Int} {a : Int} (h : smallF l a = false) : scD l a = 0 ∧ scS l a = 0 := by unfold scD scS; rw [h]; exact ⟨rfl, rfl⟩
theorem sc_yes {l : List Int} {n : Nat} (h : smallF l n = true) : scD l n = (sumF l n (oppF l n) : Int) ∧ scS l n = (sumF l n (sumF l n (oppF l n)) : Int) := by unfold scD scS; rw [h]; exact ⟨rfl, rfl⟩
theorem smallF_nat {l : List Int} {a : Int} (h : smallF l a = true) : ∃ n : Nat, a = n ∧ n < 2 ^ ord l ∧ n < 2 ^ 24 ∧ isGrp l = true ∧ isSetB l a = true := by
  unfold smallF at h
  have h1 := (Bool.and_eq_true_iff.1 (Bool.and_eq_true_iff.1 h).1).1
  obtain ⟨n, rfl, a, b, c⟩ := isSetB_nat h1
  exact ⟨n, rfl, a, b, c, h1⟩
end Go.Zz
