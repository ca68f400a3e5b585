/- How often a number stands; sums of parts; sequences with the sum zero and without such parts. -/
import Derived.Test.YtgmbjfjihhdenaaGr7
import Derived.Test.YtgmbjfjihhdenaaGr8
import Derived.Test.YtgmbjfjihhdenaaGr6
import Derived.Test.YtgmbjfjihhdenaaGr4
import Derived.Test.YtgmbjfjihhdenaaGr3
import Derived.Test.YtgmbjfjihhdenaaGr5
namespace Go.Zz
open Go.RowKit Go.Proofs
set_option maxHeartbeats 1000000
set_option maxRecDepth 4000

theorem MultiplicityIn_any (u : Value) (xs : List Int) (x : Int) (w : World) (hu : Ints w u xs) :
    Calls Try.prog 202 #[u, .int .i64 x] w fun e w' => e = .returned (.int .i64 (mulI xs x : Nat)) ∧ w = w' := by
  obtain ⟨ao, c, adr, rfl, hlen, hadr, hcell⟩ := hu.op
  have hix := ints_index (c := c) elI szI hadr
  clear hadr hu
  go_enter Try.func202, Try.ntmps202
  go_wp2_with fail
  go_loop [5, 10] (fun n i => ∃ k : Nat, k ≤ xs.length ∧ i = .int .i64 k ∧ n = .int .i64 (mulTo xs x k : Nat)) (fun _ i => xs.length - (intOf i).toNat)
  case atStart => exact ⟨0, by omega, rfl, rfl⟩
  case round =>
    obtain ⟨k, hk, rfl, rfl⟩ := hrel
    have hm := mulTo_le xs x k
    by_cases hlt : k < xs.length
    · have hck := hcell k w hlt (Ext.refl _)
      by_cases e : nth xs k = x
      · have Hn := Lib.hid (mulTo_yes e)
        have hq1 : (x == nth xs k) = true := by rw [e]; simp
        have hq2 : (nth xs k == x) = true := by rw [e]; simp
        clear e
        go_wp2_with fail
        go_round
        case rel => exact ⟨k + 1, by omega, by go_num, by rw [Hn.out]; go_num⟩
        case measure => (simp [intOf]; omega)
      · have Hn := Lib.hid (mulTo_no e)
        have hq1 : (x == nth xs k) = false := by rw [beq_eq_false_iff_ne]; exact fun h => e h.symm
        have hq2 : (nth xs k == x) = false := by rw [beq_eq_false_iff_ne]; exact e
        clear e
        go_wp2_with fail
        go_round
        case rel => exact ⟨k + 1, by omega, by go_num, by rw [Hn.out]⟩
        case measure => (simp [intOf]; omega)
    · have hkl : k = xs.length := by omega
      subst hkl
      go_wp2_with fail
      go_ret
      exact ⟨rfl, rfl⟩
theorem sMultiplicityIn_any (u : Value) (xs : List Int) (x : Int) (w : World) (hu : Ints w u xs) :
    Calls Try.prog 191 #[u, .int .i64 x] w fun e w' => e = .returned (.int .i64 (mulI xs x : Nat)) ∧ w = w' := by
  obtain ⟨ao, c, adr, rfl, hlen, hadr, hcell⟩ := hu.op
  have hix := ints_index (c := c) elI szI hadr
  clear hadr hu
  go_enter Try.func191, Try.ntmps191
  go_wp2_with fail
  go_loop [5, 6] (fun n i => ∃ k : Nat, k ≤ xs.length ∧ i = .int .i64 k ∧ n = .int .i64 (mulTo xs x k : Nat)) (fun _ i => xs.length - (intOf i).toNat)
  case atStart => exact ⟨0, by omega, rfl, rfl⟩
  case round =>
    obtain ⟨k, hk, rfl, rfl⟩ := hrel
    have hm := mulTo_le xs x k
    by_cases hlt : k < xs.length
    · have hck := hcell k w hlt (Ext.refl _)
      by_cases e : nth xs k = x
      · have Hn := Lib.hid (mulTo_yes e)
        have hq1 : (x == nth xs k) = true := by rw [e]; simp
        have hq2 : (nth xs k == x) = true := by rw [e]; simp
        clear e
        go_wp2_with fail
        go_round
        case rel => exact ⟨k + 1, by omega, by go_num, by rw [Hn.out]; go_num⟩
        case measure => (simp [intOf]; omega)
      · have Hn := Lib.hid (mulTo_no e)
        have hq1 : (x == nth xs k) = false := by rw [beq_eq_false_iff_ne]; exact fun h => e h.symm
        have hq2 : (nth xs k == x) = false := by rw [beq_eq_false_iff_ne]; exact e
        clear e
        go_wp2_with fail
        go_round
        case rel => exact ⟨k + 1, by omega, by go_num, by rw [Hn.out]⟩
        case measure => (simp [intOf]; omega)
    · have hkl : k = xs.length := by omega
      subst hkl
      go_wp2_with fail
      go_ret
      exact ⟨rfl, rfl⟩
end Go.Zz

/- FormatSequence of the program. -/
namespace Go.Zz
open Go.RowKit Go.Proofs
set_option maxHeartbeats 1000000
set_option maxRecDepth 4000

def pcB (X : List Nat) (i : Nat) : ByteArray := if 1 < mulI (castL X) (nthN X i) then (fmtB (nthN X i) ++ (⟨#[94]⟩ : ByteArray)) ++ fmtB (mulI (castL X) (nthN X i) : Nat) else fmtB (nthN X i)
def fqL (X : List Nat) : Nat → List ByteArray
  | 0 => []
  | k + 1 => if 0 < k ∧ nthN X (k - 1) = nthN X k then fqL X k else fqL X k ++ [pcB X k]
theorem fqL_same {X : List Nat} {k : Nat} (h0 : 0 < k) (h : nthN X (k - 1) = nthN X k) : fqL X (k + 1) = fqL X k := by
  conv => lhs; unfold fqL
  rw [if_pos ⟨h0, h⟩]
theorem fqL_new {X : List Nat} {k : Nat} (h : ¬ (0 < k ∧ nthN X (k - 1) = nthN X k)) : fqL X (k + 1) = fqL X k ++ [pcB X k] := by
  conv => lhs; unfold fqL
  rw [if_neg h]
theorem fqL_len (X : List Nat) : ∀ k, (fqL X k).length ≤ k
  | 0 => Nat.le_refl _
  | k + 1 => by
    have := fqL_len X k
    unfold fqL; split
    · omega
    · simp; omega
theorem mul_in {X : List Nat} (hX : X.length ≤ 1000) (x : Int) : -1 ≤ ((mulI (castL X) x : Nat) : Int) ∧ ((mulI (castL X) x : Nat) : Int) < 1000000000000 := by
  have := mulTo_le (castL X) x (castL X).length
  rw [castL_len] at this
  unfold mulI; rw [castL_len]; omega
theorem pcB_size {X : List Nat} (hX : X.length ≤ 1000) (h24 : ∀ x ∈ X, x < 24) {i : Nat} (hi : i < X.length) : (pcB X i).size ≤ 27 := by
  have h1 := h24 _ (nthN_mem hi)
  have h2 := fmtB_size (n := (nthN X i : Int)) (by omega)
  have h3 := fmtB_size (mul_in hX (nthN X i))
  unfold pcB
  split
  · rw [ByteArray.size_append, ByteArray.size_append]
    have : (⟨#[94]⟩ : ByteArray).size = 1 := rfl
    omega
  · omega
theorem fqL_size {X : List Nat} (hX : X.length ≤ 1000) (h24 : ∀ x ∈ X, x < 24) : ∀ k, k ≤ X.length → ∀ b ∈ fqL X k, b.size ≤ 27
  | 0, _, b, hb => by cases hb
  | k + 1, hk, b, hb => by
    have ih := fqL_size hX h24 k (by omega)
    unfold fqL at hb
    split at hb
    · exact ih b hb
    · rw [List.mem_append, List.mem_singleton] at hb
      rcases hb with hb | rfl
      · exact ih b hb
      · exact pcB_size hX h24 (by omega)
def sp1 : ByteArray := ⟨#[32]⟩
def fqF (l xs : List Int) : ByteArray := if seqB l xs then (if xs.length = 0 then ⟨#[110, 111, 110, 101]⟩ else jn sp1 (nthS (fqL (xs.map Int.toNat) xs.length)) (fqL (xs.map Int.toNat) xs.length).length) else ⟨#[]⟩
theorem fqF_no {l xs : List Int} (h : seqB l xs = false) : fqF l xs = ⟨#[]⟩ := by unfold fqF; rw [h]; rfl
theorem fqF_none {l xs : List Int} (h : seqB l xs = true) (h0 : xs.length = 0) : fqF l xs = ⟨#[110, 111, 110, 101]⟩ := by unfold fqF; rw [h, if_pos rfl, if_pos h0]
theorem fqF_yes {l : List Int} {X : List Nat} (h : seqB l (castL X) = true) (h0 : ¬ X.length = 0) : fqF l (castL X) = jn sp1 (nthS (fqL X X.length)) (fqL X X.length).length := by
  unfold fqF; rw [h, if_pos rfl, castL_len, if_neg h0, map_cast]
theorem FormatSequence_any (v u : Value) (l xs : List Int) (w : World) (h : Ints w v l) (hu : Ints w u xs) :
    Calls Try.prog 119 #[.agg #[v], u] w fun e w' => e = .returned (.string (fqF l xs)) ∧ Ext w w' := by
  obtain ⟨wb, hwb⟩ : ∃ wb, wb = w.alloc (.cells #[v] 31) := ⟨_, rfl⟩
  have hE0 := (Ext.refl w).alloc (.cells #[v] 31)
  have hb := box_cell w v 31
  rw [← hwb] at hE0 hb
  have hg : ∀ W, Ext wb W → Ints W v l := fun W hW => h.ext (hE0.trans hW)
  have hE := Ext.refl wb
  have Hsz : Hid (w.heap.size + 1 = wb.heap.size) := Lib.hid (by rw [hwb]; simp [go_sem])
  have Hwb := Lib.hid hwb
  clear hwb h
  have hbx := hb wb hE
  have HU := Lib.hid (fun W (hW : Ext wb W) => hu.ext (hE0.trans hW))
  cases hs : seqB l xs
  · have Hs := Lib.hid (fqF_no hs)
    have cS := fun W (hW : Ext wb W) => IsSequence_val v u l xs W (hg _ hW) (HU.out _ hW) hs
    go_enter Try.func119, Try.ntmps119
    go_wp2_with fail
    rw [← Hwb.out]
    refine (cS _ hE).mono ?_
    rintro e w1 ⟨rfl, hE1⟩
    go_wp2_with fail
    go_ret
    exact ⟨ret_str Hs.out.symm, hE0.trans hE1⟩
  have cS := fun W (hW : Ext wb W) => IsSequence_val v u l xs W (hg _ hW) (HU.out _ hW) hs
  obtain ⟨X, rfl, -, hX12, hgr, hX⟩ := seqB_nat hs
  have hu2 := hu.ext hE0
  obtain ⟨ao, c, adr, rfl, hadr, hcell⟩ := hu2.nats
  have hix := ints_index (c := c) elI szI hadr
  by_cases h0 : X.length = 0
  · have Hs := Lib.hid (fqF_none hs (by rw [castL_len]; exact h0))
    have h00 : (((X.length : Nat) : Int) == 0) = true := by rw [h0]; rfl
    clear h0 hX hcell hix hadr
    go_enter Try.func119, Try.ntmps119
    go_wp2_with fail
    rw [← Hwb.out]
    refine (cS _ hE).mono ?_
    rintro e w1 ⟨rfl, hE1⟩
    go_wp2_with fail
    go_ret
    exact ⟨ret_str Hs.out.symm, hE0.trans hE1⟩
  have Hs := Lib.hid (fqF_yes hs h0)
  have h00 : (((X.length : Nat) : Int) == 0) = false := by rw [beq_eq_false_iff_ne]; omega
  have Hsz := Lib.hid (fqL_size (X := X) (by omega) hX X.length (Nat.le_refl _))
  have HcX := Lib.hid hcell
  have HX := Lib.hid hX
  clear hadr hcell h0 hs hgr hu hX
  go_enter Try.func119, Try.ntmps119
  go_wp2_with fail
  rw [← Hwb.out]
  refine (cS _ hE).mono ?_
  rintro e w1 ⟨rfl, hE1⟩
  have hO0 := ownS_made (Ext.refl w1)
  have hEO := (Ext.refl w1).alloc (.cells #[] 9)
  go_wp2_with fail
  go_loopw [5, 20] (fun ov iv wr => ∃ k : Nat, k ≤ X.length ∧ iv = .int .i64 k ∧ OwnS w1 wr ov (fqL X k) ∧ Ext w1 wr) (fun _ iv _ => X.length - (intOf iv).toNat)
  case atStart => exact ⟨0, by omega, rfl, hO0, hEO⟩
  case round =>
    clear hO0 hEO
    obtain ⟨k, hk, rfl, hO, hF⟩ := hrel
    have hEr := hE1.trans hF
    by_cases hlt : k < X.length
    · have hx24 := HX.out _ (nthN_mem hlt)
      have hck := HcX.out k wr hlt hEr
      by_cases hsame : 0 < k ∧ nthN X (k - 1) = nthN X k
      · have Hn := Lib.hid (fqL_same hsame.1 hsame.2)
        have hk0 : (0 : Int) < (k : Int) := by omega
        have ix1 : ∀ W, (Instr.indexAt 22 (.slice ao X.length c) (.int .i64 ((k : Int) - 1))).run Try.prog W = .ok (.pointer (some (adr (k - 1)))) W := fun W => by rw [show ((k : Int) - 1) = ((k - 1 : Nat) : Int) by omega]; exact hix _ W (by omega)
        have hck1 : wr.cell? (adr (k - 1)) = some (.int .i64 (nthN X k : Int)) := by rw [← hsame.2]; exact HcX.out (k - 1) wr (by omega) hEr
        clear hsame
        go_wp2_with fail
        go_roundw
        case rel => exact ⟨k + 1, by omega, by go_num, by rw [Hn.out]; exact hO, hF⟩
        case measure => (simp [intOf]; omega)
      · have Hn := Lib.hid (fqL_new hsame)
        have hfl := fqL_len X k
        have hln : (fqL X k).length < 1000000 := by omega
        obtain ⟨x, hx⟩ : ∃ x, x = nthN X k := ⟨_, rfl⟩
        rw [← hx] at hck hx24
        have cI := fun W => FormatInt_any (x : Int) (by omega) W
        have cM := fun W (hW : Ext wb W) => MultiplicityIn_any (.slice ao X.length c) (castL X) (x : Int) W (HU.out _ hW)
        have hmi := mul_in (X := X) (by omega) (x : Int)
        obtain ⟨M, hM⟩ : ∃ M, M = mulI (castL X) (x : Int) := ⟨_, rfl⟩
        rw [← hM] at cM hmi
        have cJ := fun W => FormatInt_any (M : Int) hmi W
        have hs1 := fmtB_size (n := (x : Int)) (by omega)
        have hs2 := fmtB_size hmi
        by_cases hk0 : 0 < k
        · have hkI : (0 : Int) < (k : Int) := by omega
          have ix1 : ∀ W, (Instr.indexAt 22 (.slice ao X.length c) (.int .i64 ((k : Int) - 1))).run Try.prog W = .ok (.pointer (some (adr (k - 1)))) W := fun W => by rw [show ((k : Int) - 1) = ((k - 1 : Nat) : Int) by omega]; exact hix _ W (by omega)
          have hck1 := HcX.out (k - 1) wr (by omega) hEr
          have hne : (((nthN X (k - 1) : Nat) : Int) == (x : Int)) = false := by
            rw [beq_eq_false_iff_ne, hx]; intro e; exact hsame ⟨hk0, by omega⟩
          by_cases hgt : 1 < M
          · have hgI : (1 : Int) < (M : Int) := by omega
            have Hp : Hid (pcB X k = (fmtB (x : Int) ++ (⟨#[94]⟩ : ByteArray)) ++ fmtB (M : Int)) := Lib.hid (by unfold pcB; rw [← hx, ← hM, if_pos hgt])
            clear hx hM hsame hgt
            go_wp2_with (first | (go_at_call 100; with_reducible refine (cI _).mono ?_; rintro e2 w2 ⟨rfl, hE2⟩; have hE2b := hEr.trans hE2) | (go_at_call 202; refine (cM _ hE2b).mono ?_; rintro e' w' ⟨rfl, rfl⟩) | (go_at_call 100; with_reducible refine (cJ _).mono ?_; rintro e3 w3 ⟨rfl, hE3⟩; have hE23 := hE2.trans hE3) | (at_builtin; refine wp_append1S rfl _ _ rfl w1 _ _ _ _ (hO.ext hE23) (hF.trans hE23) hln rfl rfl ?_; intro v1 w4 hO1 hE4))
            go_roundw
            case rel => exact ⟨k + 1, by omega, by go_num, by rw [Hn.out, Hp.out]; exact hO1, hE4⟩
            case measure => (simp [intOf]; omega)
          · have hgI : ¬ (1 : Int) < (M : Int) := by omega
            have Hp : Hid (pcB X k = fmtB (x : Int)) := Lib.hid (by unfold pcB; rw [← hx, ← hM, if_neg hgt])
            clear hx hM hsame hgt
            go_wp2_with (first | (go_at_call 100; with_reducible refine (cI _).mono ?_; rintro e2 w2 ⟨rfl, hE2⟩; have hE2b := hEr.trans hE2) | (go_at_call 202; refine (cM _ hE2b).mono ?_; rintro e' w' ⟨rfl, rfl⟩) | (at_builtin; refine wp_append1S rfl _ _ rfl w1 _ _ _ _ (hO.ext hE2) (hF.trans hE2) hln rfl rfl ?_; intro v1 w4 hO1 hE4))
            go_roundw
            case rel => exact ⟨k + 1, by omega, by go_num, by rw [Hn.out, Hp.out]; exact hO1, hE4⟩
            case measure => (simp [intOf]; omega)
        · have hkI : ¬ (0 : Int) < (k : Int) := by omega
          by_cases hgt : 1 < M
          · have hgI : (1 : Int) < (M : Int) := by omega
            have Hp : Hid (pcB X k = (fmtB (x : Int) ++ (⟨#[94]⟩ : ByteArray)) ++ fmtB (M : Int)) := Lib.hid (by unfold pcB; rw [← hx, ← hM, if_pos hgt])
            clear hx hM hsame hgt
            go_wp2_with (first | (go_at_call 100; with_reducible refine (cI _).mono ?_; rintro e2 w2 ⟨rfl, hE2⟩; have hE2b := hEr.trans hE2) | (go_at_call 202; refine (cM _ hE2b).mono ?_; rintro e' w' ⟨rfl, rfl⟩) | (go_at_call 100; with_reducible refine (cJ _).mono ?_; rintro e3 w3 ⟨rfl, hE3⟩; have hE23 := hE2.trans hE3) | (at_builtin; refine wp_append1S rfl _ _ rfl w1 _ _ _ _ (hO.ext hE23) (hF.trans hE23) hln rfl rfl ?_; intro v1 w4 hO1 hE4))
            go_roundw
            case rel => exact ⟨k + 1, by omega, by go_num, by rw [Hn.out, Hp.out]; exact hO1, hE4⟩
            case measure => (simp [intOf]; omega)
          · have hgI : ¬ (1 : Int) < (M : Int) := by omega
            have Hp : Hid (pcB X k = fmtB (x : Int)) := Lib.hid (by unfold pcB; rw [← hx, ← hM, if_neg hgt])
            clear hx hM hsame hgt
            go_wp2_with (first | (go_at_call 100; with_reducible refine (cI _).mono ?_; rintro e2 w2 ⟨rfl, hE2⟩; have hE2b := hEr.trans hE2) | (go_at_call 202; refine (cM _ hE2b).mono ?_; rintro e' w' ⟨rfl, rfl⟩) | (at_builtin; refine wp_append1S rfl _ _ rfl w1 _ _ _ _ (hO.ext hE2) (hF.trans hE2) hln rfl rfl ?_; intro v1 w4 hO1 hE4))
            go_roundw
            case rel => exact ⟨k + 1, by omega, by go_num, by rw [Hn.out, Hp.out]; exact hO1, hE4⟩
            case measure => (simp [intOf]; omega)
    · have hkl : k = X.length := by omega
      have hS := (show OwnS w1 wr _ (fqL X X.length) by rw [← hkl]; exact hO).strs
      have hfl := fqL_len X X.length
      have hc := glued_big _ (fqL X X.length) sp1 wr hS (by decide) (fun i hi => by
        have := Hsz.out (nthS (fqL X X.length) i) (by
          have : nthS (fqL X X.length) i = (fqL X X.length)[i] := by simp [nthS, List.getD, hi]
          rw [this]; exact List.getElem_mem hi)
        omega) (by omega)
      clear hkl
      go_wp2_with (refine hc.mono ?_; rintro e w2 ⟨rfl, rfl⟩)
      go_ret
      exact ⟨ret_str Hs.out.symm, hE0.trans hEr⟩
end Go.Zz

/- FormatSet of the program. -/
namespace Go.Zz
open Go.RowKit Go.Proofs
set_option maxHeartbeats 400000
set_option maxRecDepth 4000

def fsF (l : List Int) (a : Int) : ByteArray := if isSetB l a then numF (castL (elems a.toNat)) else ⟨#[]⟩
theorem fsF_no {l : List Int} {a : Int} (h : isSetB l a = false) : fsF l a = ⟨#[]⟩ := by unfold fsF; rw [h]; rfl
theorem fsF_nat {l : List Int} {n : Nat} (h : isSetB l n = true) : fsF l n = numF (castL (elems n)) := by unfold fsF; rw [h]; rfl
theorem elems_in (n i : Nat) (h : i < (castL (elems n)).length) : -1 ≤ nth (castL (elems n)) i ∧ nth (castL (elems n)) i < 1000000000000 := by
  rw [castL_len] at h
  have e : nth (castL (elems n)) i = ((elems n)[i] : Int) := by simp [nth, castL, List.getD, h]
  have := elems_lt (List.getElem_mem h)
  rw [e]; omega
--%call FormatSet 120 ext FormatSet_any _ _ _ _ ({0})
theorem FormatSet_any (v : Value) (l : List Int) (a : Int) (w : World) (h : Ints w v l) :
    Calls Try.prog 120 #[.agg #[v], .int .i64 a] w fun e w' => e = .returned (.string (fsF l a)) ∧ Ext w w' := by
  have hE0 := (Ext.refl w).alloc (.cells #[v] 31)
  have hE := Ext.refl (w.alloc (.cells #[v] 31))
  have hb := box_cell w v 31
  have hg : ∀ W, Ext (w.alloc (.cells #[v] 31)) W → Ints W v l := fun W hW => h.ext (hE0.trans hW)
  clear h
  cases hs : isSetB l a
  · have He := Lib.hid (fsF_no hs)
    go_enter Try.func120, Try.ntmps120
    go_wp2_with (first | (go_at_call 134; refine (IsSet_any _ _ _ _ (hg _ hE)).mono ?_; rintro e w' ⟨rfl, hE'⟩; replace hE := hE.trans hE'; clear hE'))
    go_ret
    exact ⟨ret_str He.out.symm, hE0.trans hE⟩
  · obtain ⟨n, rfl, -, hn, -⟩ := isSetB_nat hs
    have He := Lib.hid (fsF_nat hs)
    have hc := fun v W (hI : Ints W v (castL (elems n))) => numbers_any v (castL (elems n)) W hI (elems_in n) (by rw [castL_len]; have := elems_len n; omega)
    go_enter Try.func120, Try.ntmps120
    go_wp2_with (first | (go_at_call 134; refine (IsSet_any _ _ _ _ (hg _ hE)).mono ?_; rintro e w' ⟨rfl, hE'⟩; replace hE := hE.trans hE'; clear hE') | (go_at_call 169; refine (members_any _ (hn) _).mono ?_; rintro e w1 ⟨v1, rfl, hL, hE1⟩; obtain ⟨aoL, cL, adrL, rfl, hadrL, hcellL⟩ := hL.ints.nats; have hixL := ints_index (c := cL) elI szI hadrL; clear hadrL) | (go_at_call 99; refine (hc _ _ hL.ints).mono ?_; rintro e w2 ⟨rfl, hE2⟩))
    go_ret
    exact ⟨ret_str He.out.symm, ((hE0.trans hE).trans hE1).trans hE2⟩
end Go.Zz

/- ListOf of both. -/
namespace Go.Zz
open Go.RowKit Go.Proofs
set_option maxHeartbeats 400000
set_option maxRecDepth 4000

def loF (l : List Int) (a : Int) : List Int := if isSetB l a then castL (elems a.toNat) else []
theorem loF_no {l : List Int} {a : Int} (h : isSetB l a = false) : loF l a = [] := by unfold loF; rw [h]; rfl
theorem loF_nat {l : List Int} {n : Nat} (h : isSetB l n = true) : loF l n = castL (elems n) := by unfold loF; rw [h]; rfl
theorem sListOf_any (v : Value) (l : List Int) (a : Int) (w : World) (h : Ints w v l) :
    Calls Try.prog 192 #[.agg #[v], .int .i64 a] w fun e w' => ∃ u, e = .returned u ∧ Own 3 w w' u (loF l a) ∧ Ext w w' := by
  have hE0 := (Ext.refl w).alloc (.cells #[v] 31)
  have hE := Ext.refl (w.alloc (.cells #[v] 31))
  have hb := box_cell w v 31
  have hg : ∀ W, Ext (w.alloc (.cells #[v] 31)) W → Ints W v l := fun W hW => h.ext (hE0.trans hW)
  clear h
  cases hs : isSetB l a
  · have He := Lib.hid (loF_no hs)
    go_enter Try.func192, Try.ntmps192
    go_wp2_with (first | (go_at_call 141; refine (sIsSet_any _ _ _ _ (hg _ hE)).mono ?_; rintro e w' ⟨rfl, hE'⟩; replace hE := hE.trans hE'; clear hE'))
    go_ret
    have hE2 := hE0.trans hE
    exact ⟨_, rfl, by rw [He.out]; exact own_made (TI := 3) (n := 0) (by omega) hE2 [] rfl, hE2.alloc _⟩
  · obtain ⟨n, rfl, -, hn, -⟩ := isSetB_nat hs
    have He := Lib.hid (loF_nat hs)
    go_enter Try.func192, Try.ntmps192
    go_wp2_with (first | (go_at_call 141; refine (sIsSet_any _ _ _ _ (hg _ hE)).mono ?_; rintro e w' ⟨rfl, hE'⟩; replace hE := hE.trans hE'; clear hE') | (go_at_call 170; refine (l3List_any _ (hn) _).mono ?_; rintro e w1 ⟨v1, rfl, hL, hE1⟩; obtain ⟨aoL, cL, adrL, rfl, hadrL, hcellL⟩ := hL.ints.nats; have hixL := ints_index (c := cL) elI szI hadrL; clear hadrL))
    go_ret
    have hE2 := hE0.trans hE
    exact ⟨_, rfl, by rw [He.out]; simpa [castL_len] using hL.mono hE2, hE2.trans hE1⟩
end Go.Zz

/- ListOf and FormatSet of the reference. -/
namespace Go.Zz
open Go.RowKit Go.Proofs
set_option maxHeartbeats 400000
set_option maxRecDepth 4000

theorem loF_in (l : List Int) (a : Int) (i : Nat) (h : i < (loF l a).length) : -1 ≤ nth (loF l a) i ∧ nth (loF l a) i < 1000000000000 := by
  cases hs : isSetB l a
  · rw [loF_no hs] at h; simp at h
  · obtain ⟨n, rfl, -, hn, -⟩ := isSetB_nat hs
    rw [loF_nat hs] at h ⊢
    exact elems_in n i h
theorem loF_len (l : List Int) (a : Int) : (loF l a).length ≤ 24 := by
  unfold loF
  split
  · rw [castL_len]; exact elems_len _
  · simp
theorem fsF_lo (l : List Int) (a : Int) : fsF l a = if (loF l a).length = 0 then (if isSetB l a then ⟨#[110, 111, 110, 101]⟩ else ⟨#[]⟩) else jn comma (fun i => fmtB (nth (loF l a) i)) (loF l a).length := by
  cases hs : isSetB l a
  · rw [fsF_no hs, loF_no hs]; rfl
  · unfold fsF loF
    rw [hs]
    show numF _ = _
    unfold numF
    rfl
theorem sFormatSet_any (v : Value) (l : List Int) (a : Int) (w : World) (h : Ints w v l) :
    Calls Try.prog 112 #[.agg #[v], .int .i64 a] w fun e w' => e = .returned (.string (fsF l a)) ∧ Ext w w' := by
  have hE0 := (Ext.refl w).alloc (.cells #[v] 31)
  have hE := Ext.refl (w.alloc (.cells #[v] 31))
  have hb := box_cell w v 31
  have hg : ∀ W, Ext (w.alloc (.cells #[v] 31)) W → Ints W v l := fun W hW => h.ext (hE0.trans hW)
  clear h
  have hin := loF_in l a
  have hlen := loF_len l a
  have Hf := Lib.hid (fsF_lo l a)
  have Hin := Lib.hid hin
  clear hin
  have hc := fun W (hI : Ints W v l) => sListOf_any v l a W hI
  go_enter Try.func112, Try.ntmps112
  go_wp2_with (go_at_call 192; refine (hc _ (hg _ hE)).mono ?_; rintro e w1 ⟨u, rfl, hO, hE1⟩; obtain ⟨aoL, cL, adrL, rfl, hlenL, hadrL, hcellL⟩ := hO.ints.op; have hixL := ints_index (c := cL) elI szI hadrL)
  clear hadrL hO
  obtain ⟨m, hm⟩ : ∃ m, m = loF l a := ⟨_, rfl⟩
  rw [← hm] at hlen hlenL hcellL hixL Hf Hin ⊢
  clear hm
  go_loopw [5, 7] (fun s i wr => ∃ (k : Nat) (t : ByteArray), k ≤ m.length ∧ i = .int .i64 k ∧ s = .string t ∧ Hid (t = jn comma (fun i => fmtB (nth m i)) k) ∧ Ext w1 wr) (fun _ i _ => m.length - (intOf i).toNat)
  case atStart => exact ⟨0, _, by omega, rfl, rfl, Lib.hid rfl, Ext.refl _⟩
  case round =>
    obtain ⟨k, t, hk, rfl, rfl, Ht, hEr⟩ := hrel
    have hts : t.size ≤ 14 * k := by rw [Ht.out]; exact jn_size _ _ (by decide) k fun i hi => fmtB_size (Hin.out i (by omega))
    by_cases hlt : k < m.length
    · have hck := hcellL k _ hlt hEr
      have hcF := sFormatInt_any (nth m k) (Hin.out k hlt)
      have hsz : (fmtB (nth m k)).size ≤ 13 := fmtB_size (Hin.out k hlt)
      obtain ⟨u, hu⟩ : ∃ u, u = fmtB (nth m k) := ⟨_, rfl⟩
      rw [← hu] at hsz hcF
      have He := Lib.hid hu
      clear hu
      by_cases hk0 : 0 < k
      · have hk1 : (0:Int) < k := by omega
        go_wp2_with (refine (hcF _).mono ?_; rintro e w2 ⟨rfl, hE2⟩)
        go_roundw
        case rel => exact ⟨k + 1, _, by omega, by go_num, rfl, Lib.hid (by rw [jn_next _ _ hk0, ← Ht.out, He.out]; rfl), hEr.trans hE2⟩
        case measure => (simp [intOf]; omega)
      · have hk1 : k = 0 := by omega
        subst hk1
        have hix0 : ∀ W, (Instr.indexAt 22 (.slice aoL m.length cL) (.int .i64 0)).run Try.prog W = .ok (.pointer (some (adrL 0))) W := fun W => by simpa using hixL 0 W hlt
        go_wp2_with (refine (hcF _).mono ?_; rintro e w2 ⟨rfl, hE2⟩)
        go_roundw
        case rel => exact ⟨1, _, by omega, rfl, rfl, Lib.hid (by rw [jn_first, He.out, Ht.out]; rfl), hEr.trans hE2⟩
        case measure => (simp [intOf]; omega)
    · have hkl : k = m.length := by omega
      subst hkl
      have hER := (hE0.trans hE1).trans hEr
      have hEb := hE1.trans hEr
      by_cases h0 : m.length = 0
      · have ht0 : t = ⟨#[]⟩ := by rw [Ht.out, h0]; rfl
        subst ht0
        have Hf2 : Hid (fsF l a = if isSetB l a then ⟨#[110, 111, 110, 101]⟩ else ⟨#[]⟩) := Lib.hid (by rw [Hf.out, if_pos h0])
        have hcS := sIsSet_any v l a _ (hg _ hEb)
        clear h0 hts Hf
        cases hs : isSetB l a
        all_goals
          rw [hs] at Hf2 hcS
          go_wp2_with (refine hcS.mono ?_; rintro e w3 ⟨rfl, hE3⟩)
          go_ret
          exact ⟨ret_str Hf2.out.symm, hER.trans hE3⟩
      · have He : Hid (fsF l a = t) := Lib.hid (by rw [Hf.out, if_neg h0, Ht.out])
        have h1 := jn_some comma (fun i => fmtB (nth m i)) m.length (by omega) fun i hi => fmtB_some (Hin.out i hi)
        rw [← Ht.out] at h1
        have ht1 := str_some h1
        go_wp2_with fail
        go_ret
        exact ⟨ret_str He.out.symm, hER⟩
end Go.Zz

/- FormatSequence of the reference. -/
namespace Go.Zz
open Go.RowKit Go.Proofs
set_option maxHeartbeats 1000000
set_option maxRecDepth 4000

theorem nthS_app (L : List ByteArray) (p : ByteArray) {i : Nat} (hi : i < L.length) : nthS (L ++ [p]) i = nthS L i := by
  simp [nthS, List.getD, List.getElem?_append_left hi]
theorem nthS_last (L : List ByteArray) (p : ByteArray) : nthS (L ++ [p]) L.length = p := by simp [nthS, List.getD]
theorem jn_add (s : ByteArray) (L : List ByteArray) (p : ByteArray) (h : 0 < L.length) : jn s (nthS (L ++ [p])) (L ++ [p]).length = (jn s (nthS L) L.length ++ s) ++ p := by
  rw [List.length_append, List.length_singleton, jn_next _ _ h, nthS_last, jn_congr s _ (nthS L) L.length fun i hi => nthS_app L p hi]
theorem jn_one (s : ByteArray) (L : List ByteArray) (p : ByteArray) (h : L.length = 0) : jn s (nthS (L ++ [p])) (L ++ [p]).length = jn s (nthS L) L.length ++ p := by
  have hL : L = [] := List.eq_nil_of_length_eq_zero h
  subst hL; rfl
theorem fqL_pos {X : List Nat} : ∀ k, 0 < k → 0 < (fqL X k).length
  | 0, h => by omega
  | k + 1, _ => by
    unfold fqL
    split
    · next h => exact fqL_pos k h.1
    · simp
theorem pcB_some {X : List Nat} (h24 : ∀ x ∈ X, x < 24) {i : Nat} (hi : i < X.length) : 1 ≤ (pcB X i).size := by
  have h1 := h24 _ (nthN_mem hi)
  have h2 := fmtB_some (n := (nthN X i : Int)) (by omega)
  unfold pcB
  split
  · rw [ByteArray.size_append, ByteArray.size_append]; omega
  · exact h2
theorem fqL_some {X : List Nat} (h24 : ∀ x ∈ X, x < 24) : ∀ k, k ≤ X.length → ∀ b ∈ fqL X k, 1 ≤ b.size
  | 0, _, b, hb => by cases hb
  | k + 1, hk, b, hb => by
    have ih := fqL_some h24 k (by omega)
    unfold fqL at hb
    split at hb
    · exact ih b hb
    · rw [List.mem_append, List.mem_singleton] at hb
      rcases hb with hb | rfl
      · exact ih b hb
      · exact pcB_some h24 (by omega)
theorem nthS_mem {L : List ByteArray} {i : Nat} (h : i < L.length) : nthS L i ∈ L := by
  have : nthS L i = L[i] := by simp [nthS, List.getD, h]
  rw [this]; exact List.getElem_mem h
theorem sFormatSequence_any (v u : Value) (l xs : List Int) (w : World) (h : Ints w v l) (hu : Ints w u xs) :
    Calls Try.prog 111 #[.agg #[v], u] w fun e w' => e = .returned (.string (fqF l xs)) ∧ Ext w w' := by
  obtain ⟨wb, hwb⟩ : ∃ wb, wb = w.alloc (.cells #[v] 31) := ⟨_, rfl⟩
  have hE0 := (Ext.refl w).alloc (.cells #[v] 31)
  have hb := box_cell w v 31
  rw [← hwb] at hE0 hb
  have hg : ∀ W, Ext wb W → Ints W v l := fun W hW => h.ext (hE0.trans hW)
  have hE := Ext.refl wb
  have Hsz : Hid (w.heap.size + 1 = wb.heap.size) := Lib.hid (by rw [hwb]; simp [go_sem])
  have Hwb := Lib.hid hwb
  clear hwb h
  have HU := Lib.hid (fun W (hW : Ext wb W) => hu.ext (hE0.trans hW))
  cases hs : seqB l xs
  · have Hs := Lib.hid (fqF_no hs)
    have cS := fun W (hW : Ext wb W) => sIsSequence_val v u l xs W (hg _ hW) (HU.out _ hW) hs
    have hb0 := hb wb hE
    obtain ⟨ao, c, adr, rfl, hlen, -, -⟩ := hu.op
    clear hs hu
    go_enter Try.func111, Try.ntmps111
    go_wp2_with fail
    rw [← Hwb.out]
    go_loopw [5, 6] (fun sv iv wr => sv = .string ⟨#[]⟩ ∧ iv = .int .i64 0 ∧ Ext wb wr) (fun _ _ _ => 0)
    case atStart => exact ⟨rfl, rfl, hE⟩
    case round =>
      obtain ⟨rfl, rfl, hEr⟩ := hrel
      have hemp : (⟨#[]⟩ : ByteArray).toList.isEmpty = true := by rw [ByteArray.toList_eq]; rfl
      have hbr := hb _ hEr
      by_cases hq : (0 : Int) < (xs.length : Int)
      ·
        have hEs := hEr
        clear hEr
        go_wp2_with (go_at_call 190; refine (cS _ hEs).mono ?_; rintro e' w' ⟨rfl, hE'⟩; replace hEs := hEs.trans hE'; clear hE')
        go_ret
        exact ⟨ret_str Hs.out.symm, hE0.trans hEs⟩
      ·
        have hEs := hEr
        clear hEr
        go_wp2_with (go_at_call 190; refine (cS _ hEs).mono ?_; rintro e' w' ⟨rfl, hE'⟩; replace hEs := hEs.trans hE'; clear hE')
        go_ret
        exact ⟨ret_str Hs.out.symm, hE0.trans hEs⟩
  have cS := fun W (hW : Ext wb W) => sIsSequence_val v u l xs W (hg _ hW) (HU.out _ hW) hs
  obtain ⟨X, rfl, -, hX12, hgr, hX⟩ := seqB_nat hs
  have hu2 := hu.ext hE0
  obtain ⟨ao, c, adr, rfl, hadr, hcell⟩ := hu2.nats
  have hix := ints_index (c := c) elI szI hadr
  have HcX := Lib.hid hcell
  have HX := Lib.hid hX
  have Hhs := Lib.hid hs
  have Hsz := Lib.hid (fqL_size (X := X) (by omega) hX)
  have Hso := Lib.hid (fqL_some (X := X) hX)
  clear hadr hcell hs hgr hu hX
  go_enter Try.func111, Try.ntmps111
  go_wp2_with fail
  rw [← Hwb.out]
  go_loopw [5, 6] (fun sv iv wr => ∃ (k : Nat) (st : ByteArray), k ≤ X.length ∧ iv = .int .i64 k ∧ sv = .string st ∧ Hid (st = jn sp1 (nthS (fqL X k)) (fqL X k).length) ∧ Ext wb wr) (fun _ iv _ => X.length - (intOf iv).toNat)
  case atStart => exact ⟨0, _, by omega, rfl, rfl, Lib.hid rfl, hE⟩
  case round =>
    clear hE
    obtain ⟨k, st, hk, rfl, rfl, Hst, hEr⟩ := hrel
    have hbr := hb _ hEr
    have hfl := fqL_len X k
    have hstS : st.size ≤ 60012 := by
      rw [Hst.out]
      have := jn_size2 sp1 (nthS (fqL X k)) (by decide) (fqL X k).length (fun i hi => by have := Hsz.out k hk _ (nthS_mem hi); omega)
      omega
    by_cases hlt : k < X.length
    · have hx24 := HX.out _ (nthN_mem hlt)
      have hck := HcX.out k wr hlt hEr
      obtain ⟨x, hx⟩ : ∃ x, x = nthN X k := ⟨_, rfl⟩
      have Hx := Lib.hid hx
      rw [← hx] at hck hx24
      have cI := fun W => sFormatInt_any (x : Int) (by omega) W
      have cM := fun W (hW : Ext wb W) => sMultiplicityIn_any (.slice ao X.length c) (castL X) (x : Int) W (HU.out _ hW)
      have hmi := mul_in (X := X) (by omega) (x : Int)
      obtain ⟨M, hM⟩ : ∃ M, M = mulI (castL X) (x : Int) := ⟨_, rfl⟩
      rw [← hM] at cM hmi
      have cJ := fun W => sFormatInt_any (M : Int) hmi W
      have hs1 := fmtB_size (n := (x : Int)) (by omega)
      have hs2 := fmtB_size hmi
      by_cases hk0 : 0 < k
      · have hkI : (0 : Int) < (k : Int) := by omega
        have hL1 := fqL_pos (X := X) k hk0
        have hemp : st.toList.isEmpty = false := by
          rw [Hst.out]; exact str_some (jn_some _ _ _ hL1 fun i hi => Hso.out k hk _ (nthS_mem hi))
        have ix1 : ∀ W, (Instr.indexAt 22 (.slice ao X.length c) (.int .i64 ((k : Int) - 1))).run Try.prog W = .ok (.pointer (some (adr (k - 1)))) W := fun W => by rw [show ((k : Int) - 1) = ((k - 1 : Nat) : Int) by omega]; exact hix _ W (by omega)
        by_cases hsame : 0 < k ∧ nthN X (k - 1) = nthN X k
        · have Hn := Lib.hid (fqL_same hsame.1 hsame.2)
          have Hq := Lib.hid hsame.2
          clear hsame hx hM
          go_wp2_with (go_at_call 190; refine (cS _ hEr).mono ?_; rintro e2 w2 ⟨rfl, hE2⟩)
          have hE2b := hEr.trans hE2
          have hE := Ext.refl w2
          have hcq := fun U => HcX.out k _ hlt (hE2b.trans (lat_ext w2 U))
          have hcq1 := fun U => HcX.out (k - 1) _ (by omega) (hE2b.trans (lat_ext w2 U))
          rw [Hq.out] at hcq1
          (refine wp_region_lat (w2) (by kernel_rfl) (by kernel_rfl) hE ?_); (repeat (go_big_quiet_step (first | (fail "no call")))); (refine wpQuiet_nil ?_); (intro W hE'); (replace hE := lat_of hE'); (clear hE')
          go_wp2_with fail
          go_roundw
          case rel => exact ⟨k + 1, st, by omega, by go_num, rfl, by rw [Hn.out]; exact Hst, hE2b.trans hE⟩
          case measure => (simp [intOf]; omega)
        · have hne : ((x : Int) == ((nthN X (k - 1) : Nat) : Int)) = false := by
            rw [beq_eq_false_iff_ne, hx]; intro e; exact hsame ⟨hk0, by omega⟩
          have Hn := Lib.hid (fqL_new hsame)
          by_cases hgt : 1 < M
          · have hgI : (1 : Int) < (M : Int) := by omega
            have Hp : Hid (pcB X k = (fmtB (x : Int) ++ (⟨#[94]⟩ : ByteArray)) ++ fmtB (M : Int)) := Lib.hid (by unfold pcB; rw [← hx, ← hM, if_pos hgt])
            have Hst2 : Hid (((((st ++ (⟨#[32]⟩ : ByteArray)) ++ fmtB (x : Int)) ++ (⟨#[94]⟩ : ByteArray)) ++ fmtB (M : Int)) = jn sp1 (nthS (fqL X (k + 1))) (fqL X (k + 1)).length) := Lib.hid (by
              rw [Hn.out, Hp.out, jn_add _ _ _ hL1, ← Hst.out]
              simp only [ByteArray.append_assoc]
              rfl)
            clear hx hM hsame hgt Hp Hn
            go_wp2_with (go_at_call 190; refine (cS _ hEr).mono ?_; rintro e2 w2 ⟨rfl, hE2⟩)
            have hE2b := hEr.trans hE2
            have hE := Ext.refl w2
            have hcq := fun U => HcX.out k _ hlt (hE2b.trans (lat_ext w2 U))
            have hcq1 := fun U => HcX.out (k - 1) _ (by omega) (hE2b.trans (lat_ext w2 U))
            rw [← Hx.out] at hcq
            (refine wp_region_lat (w2) (by kernel_rfl) (by kernel_rfl) hE ?_); (repeat (go_big_quiet_step (first | (fail "no call")))); (refine wpQuiet_nil ?_); (intro W hE'); (replace hE := lat_of hE'); (clear hE')
            have hEw := hE2b.trans hE
            have hcW := HcX.out k _ hlt hEw
            rw [← Hx.out] at hcW
            go_wp2_with (first | (go_at_call 93; with_reducible refine (cI _).mono ?_; rintro e3 w3 ⟨rfl, hE3⟩; have hE3b := hEw.trans hE3; have hcV := HcX.out k _ hlt hE3b; rw [← Hx.out] at hcV) | (go_at_call 191; refine (cM _ hE3b).mono ?_; rintro e' w' ⟨rfl, rfl⟩) | (go_at_call 93; with_reducible refine (cJ _).mono ?_; rintro e4 w4 ⟨rfl, hE4⟩; have hE4b := hE3b.trans hE4))
            go_roundw
            case rel => exact ⟨k + 1, _, by omega, by go_num, rfl, Hst2, hE4b⟩
            case measure => (simp [intOf]; omega)
          · have hgI : ¬ (1 : Int) < (M : Int) := by omega
            have Hp : Hid (pcB X k = fmtB (x : Int)) := Lib.hid (by unfold pcB; rw [← hx, ← hM, if_neg hgt])
            have Hst2 : Hid (((st ++ (⟨#[32]⟩ : ByteArray)) ++ fmtB (x : Int)) = jn sp1 (nthS (fqL X (k + 1))) (fqL X (k + 1)).length) := Lib.hid (by
              rw [Hn.out, Hp.out, jn_add _ _ _ hL1, ← Hst.out]
              rfl)
            clear hx hM hsame hgt Hp Hn
            go_wp2_with (go_at_call 190; refine (cS _ hEr).mono ?_; rintro e2 w2 ⟨rfl, hE2⟩)
            have hE2b := hEr.trans hE2
            have hE := Ext.refl w2
            have hcq := fun U => HcX.out k _ hlt (hE2b.trans (lat_ext w2 U))
            have hcq1 := fun U => HcX.out (k - 1) _ (by omega) (hE2b.trans (lat_ext w2 U))
            rw [← Hx.out] at hcq
            (refine wp_region_lat (w2) (by kernel_rfl) (by kernel_rfl) hE ?_); (repeat (go_big_quiet_step (first | (fail "no call")))); (refine wpQuiet_nil ?_); (intro W hE'); (replace hE := lat_of hE'); (clear hE')
            have hEw := hE2b.trans hE
            have hcW := HcX.out k _ hlt hEw
            rw [← Hx.out] at hcW
            go_wp2_with (first | (go_at_call 93; with_reducible refine (cI _).mono ?_; rintro e3 w3 ⟨rfl, hE3⟩; have hE3b := hEw.trans hE3; have hcV := HcX.out k _ hlt hE3b; rw [← Hx.out] at hcV) | (go_at_call 191; refine (cM _ hE3b).mono ?_; rintro e' w' ⟨rfl, rfl⟩) | (go_at_call 93; with_reducible refine (cJ _).mono ?_; rintro e4 w4 ⟨rfl, hE4⟩; have hE4b := hE3b.trans hE4))
            go_roundw
            case rel => exact ⟨k + 1, _, by omega, by go_num, rfl, Hst2, hE3b⟩
            case measure => (simp [intOf]; omega)
      · have hkI : ¬ (0 : Int) < (k : Int) := by omega
        have hkz : k = 0 := by omega
        have hL0 : (fqL X k).length = 0 := by rw [hkz]; rfl
        have hemp : st.toList.isEmpty = true := by
          rw [Hst.out, hkz, ByteArray.toList_eq]; rfl
        have hsame : ¬ (0 < k ∧ nthN X (k - 1) = nthN X k) := fun e => hk0 e.1
        clear hkz
        have Hn := Lib.hid (fqL_new hsame)
        by_cases hgt : 1 < M
        · have hgI : (1 : Int) < (M : Int) := by omega
          have Hp : Hid (pcB X k = (fmtB (x : Int) ++ (⟨#[94]⟩ : ByteArray)) ++ fmtB (M : Int)) := Lib.hid (by unfold pcB; rw [← hx, ← hM, if_pos hgt])
          have Hst2 : Hid ((((st ++ fmtB (x : Int)) ++ (⟨#[94]⟩ : ByteArray)) ++ fmtB (M : Int)) = jn sp1 (nthS (fqL X (k + 1))) (fqL X (k + 1)).length) := Lib.hid (by
            rw [Hn.out, Hp.out, jn_one _ _ _ hL0, ← Hst.out]
            simp only [ByteArray.append_assoc])
          clear hx hM hsame hgt Hp Hn
          go_wp2_with (go_at_call 190; refine (cS _ hEr).mono ?_; rintro e2 w2 ⟨rfl, hE2⟩)
          have hE2b := hEr.trans hE2
          have hE := Ext.refl w2
          have hcq := fun U => HcX.out k _ hlt (hE2b.trans (lat_ext w2 U))
          rw [← Hx.out] at hcq
          (refine wp_region_lat (w2) (by kernel_rfl) (by kernel_rfl) hE ?_); (repeat (go_big_quiet_step (first | (fail "no call")))); (refine wpQuiet_nil ?_); (intro W hE'); (replace hE := lat_of hE'); (clear hE')
          have hEw := hE2b.trans hE
          have hcW := HcX.out k _ hlt hEw
          rw [← Hx.out] at hcW
          go_wp2_with (first | (go_at_call 93; with_reducible refine (cI _).mono ?_; rintro e3 w3 ⟨rfl, hE3⟩; have hE3b := hEw.trans hE3; have hcV := HcX.out k _ hlt hE3b; rw [← Hx.out] at hcV) | (go_at_call 191; refine (cM _ hE3b).mono ?_; rintro e' w' ⟨rfl, rfl⟩) | (go_at_call 93; with_reducible refine (cJ _).mono ?_; rintro e4 w4 ⟨rfl, hE4⟩; have hE4b := hE3b.trans hE4))
          go_roundw
          case rel => exact ⟨k + 1, _, by omega, by go_num, rfl, Hst2, hE4b⟩
          case measure => (simp [intOf]; omega)
        · have hgI : ¬ (1 : Int) < (M : Int) := by omega
          have Hp : Hid (pcB X k = fmtB (x : Int)) := Lib.hid (by unfold pcB; rw [← hx, ← hM, if_neg hgt])
          have Hst2 : Hid ((st ++ fmtB (x : Int)) = jn sp1 (nthS (fqL X (k + 1))) (fqL X (k + 1)).length) := Lib.hid (by
            rw [Hn.out, Hp.out, jn_one _ _ _ hL0, ← Hst.out])
          clear hx hM hsame hgt Hp Hn
          go_wp2_with (go_at_call 190; refine (cS _ hEr).mono ?_; rintro e2 w2 ⟨rfl, hE2⟩)
          have hE2b := hEr.trans hE2
          have hE := Ext.refl w2
          have hcq := fun U => HcX.out k _ hlt (hE2b.trans (lat_ext w2 U))
          rw [← Hx.out] at hcq
          (refine wp_region_lat (w2) (by kernel_rfl) (by kernel_rfl) hE ?_); (repeat (go_big_quiet_step (first | (fail "no call")))); (refine wpQuiet_nil ?_); (intro W hE'); (replace hE := lat_of hE'); (clear hE')
          have hEw := hE2b.trans hE
          have hcW := HcX.out k _ hlt hEw
          rw [← Hx.out] at hcW
          go_wp2_with (first | (go_at_call 93; with_reducible refine (cI _).mono ?_; rintro e3 w3 ⟨rfl, hE3⟩; have hE3b := hEw.trans hE3; have hcV := HcX.out k _ hlt hE3b; rw [← Hx.out] at hcV) | (go_at_call 191; refine (cM _ hE3b).mono ?_; rintro e' w' ⟨rfl, rfl⟩) | (go_at_call 93; with_reducible refine (cJ _).mono ?_; rintro e4 w4 ⟨rfl, hE4⟩; have hE4b := hE3b.trans hE4))
          go_roundw
          case rel => exact ⟨k + 1, _, by omega, by go_num, rfl, Hst2, hE3b⟩
          case measure => (simp [intOf]; omega)
    · have hkl : k = X.length := by omega
      have hkI : ¬ (k : Int) < (X.length : Int) := by omega
      by_cases h0 : X.length = 0
      · have hemp : st.toList.isEmpty = true := by
          rw [Hst.out, hkl, h0, ByteArray.toList_eq]; rfl
        have Hv : Hid (fqF l (castL X) = ⟨#[110, 111, 110, 101]⟩) := Lib.hid (fqF_none Hhs.out (by rw [castL_len]; exact h0))
        clear hkl h0 hfl
        go_wp2_with (go_at_call 190; refine (cS _ hEr).mono ?_; rintro e2 w2 ⟨rfl, hE2⟩)
        go_ret
        exact ⟨ret_str Hv.out.symm, hE0.trans (hEr.trans hE2)⟩
      · have hemp : st.toList.isEmpty = false := by
          rw [Hst.out]; exact str_some (jn_some _ _ _ (fqL_pos (X := X) k (by omega)) fun i hi => Hso.out k hk _ (nthS_mem hi))
        have Hv : Hid (fqF l (castL X) = st) := Lib.hid (by rw [fqF_yes Hhs.out h0, Hst.out, hkl])
        clear hkl h0 hfl
        go_wp2_with fail
        go_ret
        exact ⟨ret_str Hv.out.symm, hE0.trans hEr⟩
end Go.Zz

/- Plain facts on maps that keep sums. No program is named here. -/
namespace Go.Zz
set_option linter.unusedVariables false

def kEq (g h : List Int) (L M : List Nat) (i j p q : Nat) : Bool := !(((addF g (nthN L i) (nthN L j) : Nat) : Int) == ((addF g (nthN L p) (nthN L q) : Nat) : Int)) || !(((addF h (nthN M i) (nthN M j) : Nat) : Int) != ((addF h (nthN M p) (nthN M q) : Nat) : Int))
theorem kEq_symm (g h : List Int) (L M : List Nat) (i j p q : Nat) : kEq g h L M i j p q = kEq g h L M p q i j := by
  unfold kEq
  rw [show (((addF g (nthN L i) (nthN L j) : Nat) : Int) == ((addF g (nthN L p) (nthN L q) : Nat) : Int)) = (((addF g (nthN L p) (nthN L q) : Nat) : Int) == ((addF g (nthN L i) (nthN L j) : Nat) : Int)) by rw [Bool.eq_iff_iff, beq_iff_eq, beq_iff_eq]; exact eq_comm,
    show (((addF h (nthN M i) (nthN M j) : Nat) : Int) != ((addF h (nthN M p) (nthN M q) : Nat) : Int)) = (((addF h (nthN M p) (nthN M q) : Nat) : Int) != ((addF h (nthN M i) (nthN M j) : Nat) : Int)) by rw [Bool.eq_iff_iff, bne_iff_ne, bne_iff_ne]; exact ne_comm]
/-- equal sums go to equal sums -/
def kpB (g h : List Int) (L M : List Nat) : Bool := (List.range L.length).all fun i => (List.range L.length).all fun j => (List.range L.length).all fun p => (List.range L.length).all fun q => decide (j < i) || decide (q < p) || kEq g h L M i j p q
theorem kpB_iff {g h : List Int} {L M : List Nat} : kpB g h L M = true ↔ ∀ i j p q, i ≤ j → j < L.length → p ≤ q → q < L.length → kEq g h L M i j p q = true := by
  unfold kpB
  simp only [List.all_eq_true, List.mem_range]
  constructor
  · intro H i j p q h1 h2 h3 h4
    have := H i (by omega) j h2 p (by omega) q h4
    simpa [show ¬ j < i by omega, show ¬ q < p by omega] using this
  · intro H i h1 j h2 p h3 q h4
    by_cases hij : j < i
    · simp [hij]
    · by_cases hpq : q < p
      · simp [hpq]
      · rw [H i j p q (by omega) h2 (by omega) h4]; simp
theorem kpB_no {g h : List Int} {L M : List Nat} {i j p q : Nat} (h1 : i ≤ j) (h2 : j < L.length) (h3 : p ≤ q) (h4 : q < L.length) (e : kEq g h L M i j p q = false) : kpB g h L M = false := by
  rw [← Bool.not_eq_true, kpB_iff]; intro H; rw [H i j p q h1 h2 h3 h4] at e; cases e
/-- all pairs p, q -/
theorem kpB_all {g h : List Int} {L M : List Nat} (H : ∀ i, i < L.length → ∀ j p q, i ≤ j → j < L.length → p < L.length → p ≤ q → q < L.length → kEq g h L M i j p q = true) : kpB g h L M = true := by
  rw [kpB_iff]; intro i j p q h1 h2 h3 h4; exact H i (by omega) j p q h1 h2 (by omega) h3 h4
/-- the pairs with p not above i -/
theorem kpB_half {g h : List Int} {L M : List Nat} (H : ∀ i, i < L.length → ∀ j p q, i ≤ j → j < L.length → p < i + 1 → p ≤ q → q < L.length → kEq g h L M i j p q = true) : kpB g h L M = true := by
  rw [kpB_iff]; intro i j p q h1 h2 h3 h4
  by_cases hp : p < i + 1
  · exact H i (by omega) j p q h1 h2 hp h3 h4
  · rw [kEq_symm]; exact H p (by omega) q i j h3 h4 (by omega) h1 h2
/-- a part is kept where all is kept -/
theorem kpB_take {g h : List Int} {L M : List Nat} {n : Nat} (hn : n ≤ L.length) (H : kpB g h L M = true) : kpB g h (L.take n) (M.take n) = true := by
  rw [kpB_iff] at H ⊢
  intro i j p q h1 h2 h3 h4
  rw [List.length_take] at h2 h4
  have := H i j p q h1 (by omega) h3 (by omega)
  have e : ∀ (N : List Nat) k, k < n → nthN (N.take n) k = nthN N k := fun N k hk => by simp [nthN, List.getD, hk]
  unfold kEq at this ⊢
  rw [e L i (by omega), e L j (by omega), e L p (by omega), e L q (by omega), e M i (by omega), e M j (by omega), e M p (by omega), e M q (by omega)]
  exact this

/-! ### sets out of lists -/
theorem add_bit {a x : Nat} (h : a.testBit x = false) : a + 2 ^ x = a ||| 2 ^ x := by
  have h1 : a &&& 2 ^ x = 0 := Nat.eq_of_testBit_eq fun i => by
    rw [Nat.testBit_and, Nat.testBit_two_pow, Nat.zero_testBit]
    by_cases e : x = i
    · subst e; rw [h]; rfl
    · simp [e]
  have e1 : a < 2 ^ (max a (2 ^ x) + 1) := Nat.lt_of_lt_of_le (Nat.lt_two_pow_self) (Nat.pow_le_pow_right (by omega) (by omega))
  have e2 : 2 ^ x < 2 ^ (max a (2 ^ x) + 1) := Nat.lt_of_lt_of_le (Nat.lt_two_pow_self) (Nat.pow_le_pow_right (by omega) (by omega))
  have h2 := andN_sub (max a (2 ^ x) + 1) (a ||| 2 ^ x) (2 ^ x) (Nat.or_lt_two_pow e1 e2)
  have h3 : andN (a ||| 2 ^ x) (2 ^ x) = a := Nat.eq_of_testBit_eq fun i => by
    rw [andN_bit, Nat.testBit_or, Nat.testBit_two_pow]
    by_cases e : x = i
    · subst e; simp [h]
    · simp [e]
  have h4 : (a ||| 2 ^ x) &&& 2 ^ x = 2 ^ x := Nat.eq_of_testBit_eq fun i => by
    rw [Nat.testBit_and, Nat.testBit_or, Nat.testBit_two_pow]
    by_cases e : x = i <;> simp [e]
  rw [h3, h4] at h2; exact h2
def soG (l : List Int) : List Int → Nat → Option Nat
  | [], a => some a
  | x :: r, a => if hasB l x && !a.testBit x.toNat then soG l r (a ||| 2 ^ x.toNat) else none
def soB (l X : List Int) : Bool := (soG l X 0).isSome && isGrp l
def soV (l X : List Int) : Int := match soG l X 0 with | some a => (a : Int) | none => 0
theorem soG_no {l X : List Int} (h : soG l X 0 = none) : soB l X = false ∧ soV l X = 0 := by unfold soB soV; rw [h]; exact ⟨rfl, rfl⟩
theorem soG_yes {l X : List Int} {a : Nat} (h : soG l X 0 = some a) : soB l X = isGrp l ∧ soV l X = (a : Int) := by unfold soB soV; rw [h]; exact ⟨by simp, rfl⟩
theorem soG_hno {l r : List Int} {x : Int} {a : Nat} (h : hasB l x = false) : soG l (x :: r) a = none := by unfold soG; rw [h]; rfl
theorem soG_bno {l r : List Int} {n a : Nat} (h : a.testBit n = true) : soG l ((n : Int) :: r) a = none := by unfold soG; simp [h]
theorem soG_go {l r : List Int} {n a : Nat} (h1 : hasB l n = true) (h : a.testBit n = false) : soG l ((n : Int) :: r) a = soG l r (a ||| 2 ^ n) := by
  conv => lhs; unfold soG
  simp [h, h1]
theorem soG_append (l : List Int) : ∀ (X Y : List Int) (a : Nat), soG l (X ++ Y) a = (soG l X a).bind (soG l Y)
  | [], _, _ => rfl
  | x :: X, Y, a => by
    rw [List.cons_append]; unfold soG
    split
    · exact soG_append l X Y _
    · rfl
theorem bset_app (M : List Nat) (y : Nat) : bset (M ++ [y]) = bset M ||| 2 ^ y := bset_snoc M y
theorem bset_mem {M : List Nat} {y : Nat} : (bset M).testBit y = decide (y ∈ M) := testBit_bset M y
theorem soG_take {l : List Int} (hg : isGrp l = true) {M : List Nat} (hn : M.Nodup) (hM : ∀ y ∈ M, y < ord l) : ∀ k, k ≤ M.length → soG l (castL (M.take k)) 0 = some (bset (M.take k))
  | 0, _ => rfl
  | k + 1, hk => by
    have hk' : k < M.length := by omega
    have ih := soG_take hg hn hM k (by omega)
    have hn2 : (M.take (k + 1)).Nodup := hn.sublist (List.take_sublist _ _)
    have hy : nthN M k < ord l := hM _ (nthN_mem hk')
    rw [take_nthN M k hk'] at hn2 ⊢
    have hn3 := List.nodup_append.1 hn2
    have hyn : nthN M k ∉ M.take k := fun e => hn3.2.2 _ e _ (by simp) rfl
    rw [show castL (M.take k ++ [nthN M k]) = castL (M.take k) ++ [((nthN M k : Nat) : Int)] by simp [castL], soG_append, ih]
    show soG l [((nthN M k : Nat) : Int)] (bset (M.take k)) = _
    rw [soG_go (hasB_of hg hy) (by rw [bset_mem]; simpa using hyn), bset_app]; rfl
theorem soG_list {l : List Int} (hg : isGrp l = true) (M : List Nat) (hn : M.Nodup) (hM : ∀ y ∈ M, y < ord l) : soG l (castL M) 0 = some (bset M) := by
  have := soG_take hg hn hM M.length (Nat.le_refl _)
  rwa [List.take_length] at this
theorem soB_list {l : List Int} (hg : isGrp l = true) {M : List Nat} (hn : M.Nodup) (hM : ∀ y ∈ M, y < ord l) : soB l (castL M) = true := by
  unfold soB; rw [soG_list hg M hn hM, hg]; rfl
theorem soB_snoc {l : List Int} (hg : isGrp l = true) {M : List Nat} {y : Nat} (hn : M.Nodup) (hM : ∀ z ∈ M, z < ord l) (hy : y < ord l) : soB l (castL (M ++ [y])) = !(bset M).testBit y := by
  unfold soB
  rw [show castL (M ++ [y]) = castL M ++ [(y : Int)] by simp [castL], soG_append, soG_list hg M hn hM, hg]
  show ((soG l [(y : Int)] (bset M)).isSome && true) = _
  cases hb : (bset M).testBit y
  · rw [soG_go (hasB_of hg hy) hb]; rfl
  · rw [soG_bno hb]; rfl

/-! ### maps that keep sums, of lists of any numbers -/
def fineF (g h X Y : List Int) : Bool := Y.all (hasB h) && (soB g X && isGrp h && decide (X.length = Y.length) && decide (1 ≤ X.length ∧ X.length ≤ 6))
def natL (X : List Int) : List Nat := X.map Int.toNat
def fmF (g h X Y : List Int) : Bool := fineF g h X Y && kpB g h (natL X) (natL Y)
def isoF (g h X Y : List Int) : Bool := fmF g h X Y && fmF h g Y X
theorem natL_cast (L : List Nat) : natL (castL L) = L := by
  unfold natL castL; rw [List.map_map]
  have : (Int.toNat ∘ fun n : Nat => (n : Int)) = id := by funext n; rfl
  rw [this, List.map_id]
theorem fine_list {g h : List Int} (hg : isGrp g = true) (hh : isGrp h = true) {L M : List Nat} (hL : L.Nodup) (hLo : ∀ y ∈ L, y < ord g) (hMo : ∀ y ∈ M, y < ord h) (hlm : L.length = M.length) (h1 : 1 ≤ L.length) (h6 : L.length ≤ 6) : fineF g h (castL L) (castL M) = true := by
  unfold fineF
  rw [soB_list hg hL hLo, hh, castL_len, castL_len]
  have : (castL M).all (hasB h) = true := List.all_eq_true.2 fun x hx => by
    unfold castL at hx; obtain ⟨y, hy, rfl⟩ := List.mem_map.1 hx; exact hasB_of hh (hMo y hy)
  rw [this]; simp; omega
theorem iso_list {g h : List Int} (hg : isGrp g = true) (hh : isGrp h = true) {L M : List Nat} (hL : L.Nodup) (hM : M.Nodup) (hLo : ∀ y ∈ L, y < ord g) (hMo : ∀ y ∈ M, y < ord h) (hlm : L.length = M.length) (h1 : 1 ≤ L.length) (h6 : L.length ≤ 6) : isoF g h (castL L) (castL M) = (kpB g h L M && kpB h g M L) := by
  unfold isoF fmF
  rw [fine_list hg hh hL hLo hMo hlm h1 h6, fine_list hh hg hM hMo hLo hlm.symm (by omega) (by omega), natL_cast, natL_cast]; simp

/-! ### the search for an isomorphism -/
def isoK (g h : List Int) (L M : List Nat) : Bool := kpB g h L M && kpB h g M L
def fiI (g h : List Int) (L E : List Nat) : Nat → List Nat → Option (List Nat)
  | 0, _ => none
  | f + 1, M => if M.length = L.length then (if isoK g h L M then some M else none) else E.findSome? (fun y => if (bset M).testBit y then none else fiI g h L E f (M ++ [y]))
def fiS (g h : List Int) (L E : List Nat) : Nat → List Nat → Option (List Nat)
  | 0, _ => none
  | f + 1, M => if M.length = L.length then (if isoK g h L M then some M else none) else E.findSome? (fun y => if (bset M).testBit y || !kpB g h (L.take (M.length + 1)) (M ++ [y]) then none else fiS g h L E f (M ++ [y]))
theorem findSome_at {E : List Nat} {F : Nat → Option (List Nat)} {k : Nat} {r : List Nat} (hk : k < E.length) (h : ∀ k', k' < k → F (nthN E k') = none) (hr : F (nthN E k) = some r) : E.findSome? F = some r := by
  induction E generalizing k with
  | nil => simp at hk
  | cons y E ih =>
    cases k with
    | zero =>
      have : F y = some r := hr
      simp [List.findSome?, this]
    | succ k =>
      have h0 : F y = none := h 0 (by omega)
      simp only [List.findSome?, h0]
      exact ih (k := k) (by simpa using hk) (fun k' hk' => h (k' + 1) (by omega)) hr
theorem findSome_none {E : List Nat} {F : Nat → Option (List Nat)} (h : ∀ k', k' < E.length → F (nthN E k') = none) : E.findSome? F = none := by
  rw [List.findSome?_eq_none_iff]
  intro y hy
  obtain ⟨k, hk, rfl⟩ := List.getElem_of_mem hy
  have := h k hk
  simpa [nthN, List.getD, hk] using this
theorem findSome_get {E : List Nat} {F : Nat → Option (List Nat)} {r : List Nat} (h : E.findSome? F = some r) : ∃ y ∈ E, F y = some r := by
  obtain ⟨l1, y, l2, rfl, hy, -⟩ := List.findSome?_eq_some_iff.1 h
  exact ⟨y, by simp, hy⟩
theorem fiI_ext (g h : List Int) (L E : List Nat) : ∀ f M N, fiI g h L E f M = some N → (∃ R, N = M ++ R) ∧ N.length = L.length ∧ isoK g h L N = true := by
  intro f
  induction f with
  | zero => intro M N e; cases e
  | succ f ih =>
    intro M N e
    unfold fiI at e
    split at e
    · next hl =>
      split at e
      · next hk => cases e; exact ⟨⟨[], by simp⟩, hl, hk⟩
      · cases e
    · obtain ⟨y, -, hy⟩ := findSome_get e
      split at hy
      · cases hy
      · obtain ⟨⟨R, hR⟩, h2, h3⟩ := ih _ _ hy
        exact ⟨⟨y :: R, by rw [hR]; simp⟩, h2, h3⟩
theorem fiS_eq (g h : List Int) (L E : List Nat) : ∀ f M, M.length ≤ L.length → fiS g h L E f M = fiI g h L E f M := by
  intro f
  induction f with
  | zero => intro M _; rfl
  | succ f ih =>
    intro M hM
    unfold fiS fiI
    by_cases hl : M.length = L.length
    · rw [if_pos hl, if_pos hl]
    · rw [if_neg hl, if_neg hl]
      congr 1
      funext y
      by_cases hb : (bset M).testBit y = true
      · simp [hb]
      · have hb' : (bset M).testBit y = false := by simpa using hb
        rw [hb']
        by_cases hk : kpB g h (L.take (M.length + 1)) (M ++ [y]) = true
        · rw [hk]; simp; exact ih _ (by simp; omega)
        · have hk' : kpB g h (L.take (M.length + 1)) (M ++ [y]) = false := by simpa using hk
          rw [hk']
          simp
          cases hf : fiI g h L E f (M ++ [y]) with
          | none => rfl
          | some N =>
            exfalso
            obtain ⟨⟨R, hR⟩, h2, h3⟩ := fiI_ext g h L E _ _ _ hf
            unfold isoK at h3
            rw [Bool.and_eq_true] at h3
            have := kpB_take (n := M.length + 1) (by omega) h3.1
            rw [hR, show (M ++ [y] ++ R).take (M.length + 1) = M ++ [y] by
              rw [show M.length + 1 = (M ++ [y]).length by simp]; exact List.take_left] at this
            exact hk this
def ffC (g h : List Int) (a b : Int) : Bool := isSetB g a && isSetB h b && (decide (cnt a.toNat = cnt b.toNat) && decide (1 ≤ cnt a.toNat ∧ cnt a.toNat ≤ 5))
def ffR (g h : List Int) (a b : Int) : Option (List Nat) := if ffC g h a b then fiI g h (elems a.toNat) (elems b.toNat) (cnt a.toNat + 1) [] else none
def ffL (g h : List Int) (a b : Int) : List Nat := (ffR g h a b).getD []
def ffB (g h : List Int) (a b : Int) : Bool := (ffR g h a b).isSome
theorem ff_no {g h : List Int} {a b : Int} (e : ffR g h a b = none) : ffL g h a b = [] ∧ ffB g h a b = false := by unfold ffL ffB; rw [e]; exact ⟨rfl, rfl⟩
theorem ff_yes {g h : List Int} {a b : Int} {N : List Nat} (e : ffR g h a b = some N) : ffL g h a b = N ∧ ffB g h a b = true := by unfold ffL ffB; rw [e]; exact ⟨rfl, rfl⟩
end Go.Zz

/- Whether a map keeps sums: of the program and of the reference. -/
namespace Go.Zz
open Go.RowKit Go.Proofs
set_option maxHeartbeats 4000000
set_option maxRecDepth 8000

end Go.Zz

/- Sets out of lists; maps that keep sums: SetOf, l15Fine, IsFreimanMap, IsFreimanIso of the reference. -/
namespace Go.Zz
open Go.RowKit Go.Proofs
set_option maxHeartbeats 1000000
set_option maxRecDepth 4000

theorem fine_nat {g h X Y : List Int} (H : fineF g h X Y = true) : isGrp g = true ∧ isGrp h = true ∧ (∃ L M, X = castL L ∧ Y = castL M ∧ (∀ y ∈ L, y < 24) ∧ (∀ y ∈ M, y < 24)) ∧ X.length = Y.length ∧ X.length ≤ 6 := by
  unfold fineF at H
  simp only [Bool.and_eq_true, decide_eq_true_eq] at H
  obtain ⟨h1, ⟨⟨h2, h3⟩, h4⟩, -, h5⟩ := H
  unfold soB at h2
  rw [Bool.and_eq_true] at h2
  have key : ∀ (X : List Int) (a : Nat), (soG g X a).isSome = true → ∀ x ∈ X, hasB g x = true := by
    intro X
    induction X with
    | nil => intro a _ x hx; cases hx
    | cons y X ih =>
      intro a e x hx
      unfold soG at e
      split at e
      · next hc =>
        rw [Bool.and_eq_true] at hc
        rcases List.mem_cons.1 hx with rfl | hx
        · exact hc.1
        · exact ih _ e x hx
      · cases e
  have toN : ∀ (l : List Int) (X : List Int), (∀ x ∈ X, hasB l x = true) → X = castL (natL X) ∧ ∀ y ∈ natL X, y < 24 := by
    intro l X hX
    constructor
    · unfold castL natL; rw [List.map_map]
      conv => lhs; rw [← List.map_id X]
      refine List.map_congr_left fun x hx => ?_
      obtain ⟨n, rfl, -, -⟩ := hasB_nat (hX x hx); rfl
    · intro y hy
      unfold natL at hy
      obtain ⟨x, hx, rfl⟩ := List.mem_map.1 hy
      obtain ⟨n, rfl, hn, hg⟩ := hasB_nat (hX x hx)
      have := (ord_bd hg).2
      show n < 24; omega
  obtain ⟨a1, a2⟩ := toN g X (key X 0 h2.1)
  obtain ⟨b1, b2⟩ := toN h Y (List.all_eq_true.1 h1)
  exact ⟨h2.2, h3, ⟨_, _, a1, b1, a2, b2⟩, h4, h5⟩
end Go.Zz

/- Marks in kept counts. -/
namespace Go.Zz
open Go.RowKit Go.Proofs
set_option maxHeartbeats 400000

theorem Blk.grown {w w' : World} {b : Nat} {T : TypeId} {cs : Array Value} {row : Option Nat} (h : Blk w b T cs) (hg : w.grownBy w' row) (hne : ∀ k, row = some k → k ≠ b) : Blk w' b T cs := by
  unfold Blk
  rw [hg.block b h.lt (by
    cases row with
    | none => simp
    | some k => simp; exact fun e => hne k rfl (by first | exact e | exact e.symm))]
  exact h
/-- the slices of a value of type Kept lie below a block -/
def Below2 (c : Value) (top : Nat) : Prop := ∀ v n u, c = .agg #[v, n, u] → ∀ k, (v.ownBlock = some k ∨ u.ownBlock = some k) → k < top
theorem OwnK2.below {w0 w : World} {c : Value} {l m : List Int} {n : Int} (h : OwnK2 w0 w c l n m) : Below2 c w.heap.size := by
  obtain ⟨v, u, rfl, hv, hu, -⟩ := h
  intro v' n' u' e k hk
  simp at e
  obtain ⟨rfl, rfl, rfl⟩ := e
  rcases hk with hk | hk
  · exact (hv.blk k hk).2
  · exact (hu.blk k hk).2
theorem OwnK2.kept {w0 w w' : World} {c : Value} {l m : List Int} {n : Int} {row : Option Nat} (h : OwnK2 w0 w c l n m) (hg : w.grownBy w' row) (hr : ∀ k, row = some k → k < w0.heap.size) : OwnK2 w0 w' c l n m := by
  obtain ⟨v, u, rfl, hv, hu, hd⟩ := h
  have key : ∀ {x : Value} {ll : List Int}, Own 3 w0 w x ll → Own 3 w0 w' x ll := fun {x ll} hx => hx.kept hg (by
    cases hq : x.ownBlock with
    | none => exact Or.inl rfl
    | some k => exact Or.inr fun e => by have := hr k e.symm; have := (hx.blk k hq).1; omega)
  exact ⟨v, u, rfl, key hv, key hu, hd⟩
end Go.Zz
