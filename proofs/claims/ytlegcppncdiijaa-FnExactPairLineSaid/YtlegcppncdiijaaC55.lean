/- FormatInt of the reference. -/
import Derived.Test.YtlegcppncdiijaaC3
import Derived.Laws.BytesArg
namespace Go.Zz
open Go.RowKit Go.Proofs
set_option maxHeartbeats 400000
set_option maxRecDepth 4000

theorem bytes_lit (w : World) (y : Int) :
    (convert 42 9 (.slice (some ⟨w.heap.size, 0, none⟩) 1 1)).run Try.prog (w.alloc (.cells #[.int .u8 y] 5)) = .ok (.string (strOfNums [y])) (w.alloc (.cells #[.int .u8 y] 5)) :=
  run_convert_bytes_arg (P := Try.prog) _ 42 5 (by rfl) (by rfl) w.heap.size 0 1 1 [y] rfl (fun i hi => by
    have : i = 0 := by omega
    subst this
    simp) _ (by rfl)
def digs (m : Nat) (s : ByteArray) : ByteArray := if m = 0 then s else digs (m / 10) (strOfNums [48 + (m % 10 : Nat)] ++ s)
theorem digs_zero (s : ByteArray) : digs 0 s = s := by rw [digs, if_pos rfl]
theorem digs_pos {m : Nat} (s : ByteArray) (h : ¬ m = 0) : digs m s = digs (m / 10) (strOfNums [48 + (m % 10 : Nat)] ++ s) := by rw [digs, if_neg h]
def emptyB : ByteArray := ⟨#[]⟩
def fmtB (n : Int) : ByteArray := if n = 0 then ⟨#[48]⟩ else if n < 0 then ⟨#[45]⟩ ++ digs n.natAbs ⟨#[]⟩ else digs n.natAbs ⟨#[]⟩
theorem fmtB_pos {n : Nat} (h : 0 < n) : fmtB n = digs n ⟨#[]⟩ := by unfold fmtB; rw [if_neg (by omega), if_neg (by omega)]; rfl
theorem sFormatInt_nat (n : Nat) (hn : n < 1000000000000) (hp : 0 < n) (w : World) :
    Calls Try.prog 95 #[.int .i64 n] w fun e w' => e = .returned (.string (fmtB n)) ∧ Ext w w' := by
  have h0 : ¬ (n : Int) = 0 := by omega
  have h1 : ¬ (n : Int) < 0 := by omega
  have Hf := Lib.hid (fmtB_pos hp)
  go_enter Try.func95, Try.ntmps95
  go_wp2_with fail
  go_loopw [0, 3] (fun d s wr => ∃ m : Nat, m < 1000000000000 ∧ d = .int .i64 m ∧ Ext w wr ∧ ∃ t : ByteArray, s = .string t ∧ t.size + m ≤ n ∧ Hid (digs m t = fmtB n)) (fun d _ _ => (intOf d).toNat)
  case atStart => exact ⟨n, hn, rfl, Ext.refl _, _, rfl, by simp [ByteArray.size], Lib.hid Hf.out.symm⟩
  case round =>
    obtain ⟨m, hm, rfl, hE, t, rfl, hsz, Ht⟩ := hrel
    by_cases hz : m = 0
    · subst hz
      go_wp2_with fail
      go_ret
      exact ⟨ret_str (by rw [← Ht.out, digs_zero]), hE⟩
    · have h2 : ¬ (m : Int) = 0 := by omega
      obtain ⟨r, hr⟩ : ∃ r : Nat, (m : Int) % 10 = r := ⟨m % 10, by omega⟩
      have hr10 : r < 10 := by omega
      obtain ⟨q, hq⟩ : ∃ q : Nat, (m : Int) / 10 = q := ⟨m / 10, by omega⟩
      have Hr := Lib.hid (show r = m % 10 by omega)
      have Hq := Lib.hid (show q = m / 10 by omega)
      have hcv := bytes_lit wr (48 + r)
      have hs1 : (strOfNums [48 + (r : Int)]).size = 1 := strOfNums_size _
      go_wp2_with fail
      go_roundw
      case rel =>
        have hq' := Hq.out
        have hr' := Hr.out
        exact ⟨q, by omega, rfl, hE.alloc _, _, rfl, by (rw [ByteArray.size_append, hs1]; omega), Lib.hid (by rw [← Ht.out, digs_pos t hz, ← hq', ← hr'])⟩
      case measure => 
        have hq' := Hq.out
        (simp [intOf]; omega)
theorem fmtB_m1 : fmtB (-1) = ⟨#[45]⟩ ++ (strOfNums [49] ++ ⟨#[]⟩) := by
  unfold fmtB
  rw [if_neg (by omega), if_pos (by omega)]
  show _ ++ digs 1 _ = _
  rw [digs_pos _ (by omega), digs_zero]
  rfl
theorem sFormatInt_m1 (w : World) :
    Calls Try.prog 95 #[.int .i64 (-1)] w fun e w' => e = .returned (.string (fmtB (-1))) ∧ Ext w w' := by
  have Hf := Lib.hid fmtB_m1
  go_enter Try.func95, Try.ntmps95
  go_wp2_with fail
  go_loopw [0, 3] (fun d s wr => Ext w wr ∧ ((d = .int .i64 (-1) ∧ s = .string ⟨#[]⟩) ∨ (d = .int .i64 0 ∧ s = .string (strOfNums [49] ++ ⟨#[]⟩)))) (fun d _ _ => (intOf d).natAbs)
  case atStart => exact ⟨Ext.refl _, Or.inl ⟨rfl, rfl⟩⟩
  case round =>
    obtain ⟨hE, ⟨rfl, rfl⟩ | ⟨rfl, rfl⟩⟩ := hrel
    · have hcv := bytes_lit wr 49
      have hs1 : (strOfNums [(49 : Int)]).size = 1 := strOfNums_size _
      go_wp2_with fail
      go_roundw
      case rel => exact ⟨hE.alloc _, Or.inr ⟨rfl, rfl⟩⟩
      case measure => (simp [intOf])
    · have hs1 : (strOfNums [(49 : Int)] ++ ⟨#[]⟩).size = 1 := by rw [ByteArray.size_append, strOfNums_size]; rfl
      obtain ⟨t, ht⟩ : ∃ t, t = (strOfNums [(49 : Int)] ++ ⟨#[]⟩) := ⟨_, rfl⟩
      rw [← ht] at hs1 Hf ⊢
      go_wp2_with fail
      go_ret
      exact ⟨ret_str (by rw [Hf.out, ht]), hE⟩
theorem sFormatInt_any (n : Int) (hn : -1 ≤ n ∧ n < 1000000000000) (w : World) :
    Calls Try.prog 95 #[.int .i64 n] w fun e w' => e = .returned (.string (fmtB n)) ∧ Ext w w' := by
  rcases (by omega : n = -1 ∨ n = 0 ∨ 0 < n) with rfl | rfl | h
  · exact sFormatInt_m1 w
  · have e : fmtB 0 = ⟨#[48]⟩ := by unfold fmtB; rw [if_pos rfl]
    have He := Lib.hid e
    clear e
    go_enter Try.func95, Try.ntmps95
    go_wp2_with fail
    go_ret
    exact ⟨ret_str He.out.symm, Ext.refl _⟩
  · obtain ⟨m, rfl⟩ := Int.eq_ofNat_of_zero_le (show 0 ≤ n by omega)
    exact sFormatInt_nat m (by omega) (by omega) w
end Go.Zz
