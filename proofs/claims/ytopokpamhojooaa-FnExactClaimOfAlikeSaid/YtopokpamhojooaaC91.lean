/- FindFreimanIso of the program. -/
import Derived.Test.YtopokpamhojooaaC90
import Derived.Test.YtopokpamhojooaaC88
import Derived.Laws.EntriesVeiled
namespace Go.Zz
open Go.RowKit Go.Proofs
set_option maxHeartbeats 1000000
set_option maxRecDepth 8000

theorem FindFreimanIso_any (v u : Value) (g h : List Int) (a b : Int) (w : World) (hv : Ints w v g) (hu : Ints w u h) :
    Calls Try.prog 44 #[.agg #[v], .agg #[u], .int .i64 a, .int .i64 b] w fun e w' => ∃ v', e = .returned (.tuple #[v', .bool (ffB g h a b)]) ∧ Own 3 w w' v' (castL (ffL g h a b)) ∧ Ext w w' := by
  obtain ⟨wb, hwb⟩ : ∃ wb, wb = (w.alloc (.cells #[v] 30)).alloc (.cells #[u] 30) := ⟨_, rfl⟩
  have hE0 : Ext w wb := by rw [hwb]; exact ((Ext.refl _).alloc _).alloc _
  have B0 : Blk wb w.heap.size 30 #[v] := by rw [hwb]; exact (Blk.new _ _ _).alloc _
  have B1 : Blk wb (w.heap.size + 1) 30 #[u] := by rw [hwb]; simpa using Blk.new (w.alloc (.cells #[v] 30)) 30 #[u]
  have b0 : ∀ W, Ext wb W → W.cell? ⟨w.heap.size, 0, none⟩ = some v := fun W hW => (B0.ext hW).cell (i := 0) rfl
  have b1 : ∀ W, Ext wb W → W.cell? ⟨w.heap.size + 1, 0, none⟩ = some u := fun W hW => (B1.ext hW).cell (i := 0) rfl
  have HV := Lib.hid (fun W (hW : Ext wb W) => hv.ext (hE0.trans hW))
  have HU := Lib.hid (fun W (hW : Ext wb W) => hu.ext (hE0.trans hW))
  have hE := Ext.refl wb
  have Hwb := Lib.hid hwb
  clear hv hu hwb B0 B1
  have cA := fun W (hW : Ext wb W) => IsSet_any v g a W (HV.out W hW)
  have cB := fun W (hW : Ext wb W) => IsSet_any u h b W (HU.out W hW)
  cases hA : isSetB g a
  · have H1 := Lib.hid (ff_no (ffR_not (g := g) (h := h) (a := a) (b := b) (by unfold ffC; rw [hA]; rfl)))
    rw [hA] at cA
    clear hA cB
    go_enter Try.func44, Try.ntmps44
    go_wp2_with fail
    rw [← Hwb.out]
    refine (cA _ hE).mono ?_
    rintro e w1 ⟨rfl, hE1⟩
    go_wp2_with fail
    rw [H1.out.1, H1.out.2]
    exact bodyPost_ret (v := .tuple #[.slice (some ⟨(w1).heap.size, 0, none⟩) 0 0, .bool false]) (by simp [results, Try.results44, go_sem]) rfl ⟨_, rfl, own_made (TI := 3) (n := 0) (by omega) (hE0.trans hE1) (castL []) rfl, Ext.alloc (hE0.trans hE1) _⟩
  cases hB : isSetB h b
  · have H1 := Lib.hid (ff_no (ffR_not (g := g) (h := h) (a := a) (b := b) (by unfold ffC; rw [hB]; simp)))
    rw [hA] at cA
    rw [hB] at cB
    clear hA hB
    go_enter Try.func44, Try.ntmps44
    go_wp2_with fail
    rw [← Hwb.out]
    refine (cA _ hE).mono ?_
    rintro e w1 ⟨rfl, hE1⟩
    go_wp2_with fail
    refine (cB _ hE1).mono ?_
    rintro e w2 ⟨rfl, hE2⟩
    have hE2b := hE1.trans hE2
    go_wp2_with fail
    rw [H1.out.1, H1.out.2]
    exact bodyPost_ret (v := .tuple #[.slice (some ⟨(w2).heap.size, 0, none⟩) 0 0, .bool false]) (by simp [results, Try.results44, go_sem]) rfl ⟨_, rfl, own_made (TI := 3) (n := 0) (by omega) (hE0.trans hE2b) (castL []) rfl, Ext.alloc (hE0.trans hE2b) _⟩
  obtain ⟨A, rfl, hA2, hA24, hgg⟩ := isSetB_nat hA
  obtain ⟨B, rfl, hB2, hB24, hgh⟩ := isSetB_nat hB
  have HC : Hid (ffC g h A B = (decide (cnt A = cnt B) && decide (1 ≤ cnt A ∧ cnt A ≤ 5))) := Lib.hid (by unfold ffC; rw [hA, hB]; rfl)
  rw [hA] at cA
  rw [hB] at cB
  clear hA hB
  have cX := fun W => bits_any A hA24 W
  have cY := fun W => bits_any B hB24 W
  by_cases hc : ¬ cnt A = cnt B
  · have hcb : ((cnt A : Int) != (cnt B : Int)) = true := by rw [bne_iff_ne]; omega
    have H1 := Lib.hid (ff_no (ffR_not (g := g) (h := h) (a := A) (b := B) (by rw [HC.out, decide_eq_false hc]; rfl)))
    clear hc
    go_enter Try.func44, Try.ntmps44
    go_wp2_with fail
    rw [← Hwb.out]
    refine (cA _ hE).mono ?_
    rintro e w1 ⟨rfl, hE1⟩
    go_wp2_with fail
    refine (cB _ hE1).mono ?_
    rintro e w2 ⟨rfl, hE2⟩
    have hE2b := hE1.trans hE2
    go_wp2_with fail
    refine (cX _).mono ?_
    rintro e w3 ⟨rfl, rfl⟩
    go_wp2_with fail
    refine (cY _).mono ?_
    rintro e w3 ⟨rfl, rfl⟩
    go_wp2_with fail
    rw [H1.out.1, H1.out.2]
    exact bodyPost_ret (v := .tuple #[.slice (some ⟨(w2).heap.size, 0, none⟩) 0 0, .bool false]) (by simp [results, Try.results44, go_sem]) rfl ⟨_, rfl, own_made (TI := 3) (n := 0) (by omega) (hE0.trans hE2b) (castL []) rfl, Ext.alloc (hE0.trans hE2b) _⟩
  have hc' : cnt A = cnt B := Classical.not_not.1 hc
  have hcb : ((cnt A : Int) != (cnt B : Int)) = false := by rw [hc']; simp
  have Hc := Lib.hid hc'
  clear hc hc'
  have cN := fun W => within_any ((cnt A : Nat) : Int) 1 5 W
  have hin : inB ((cnt A : Nat) : Int) 1 5 = decide (1 ≤ cnt A ∧ cnt A ≤ 5) := by
    rw [Bool.eq_iff_iff, inB_t, decide_eq_true_iff]; omega
  rw [hin] at cN
  clear hin
  by_cases h15 : ¬ (1 ≤ cnt A ∧ cnt A ≤ 5)
  · have H1 := Lib.hid (ff_no (ffR_not (g := g) (h := h) (a := A) (b := B) (by rw [HC.out, decide_eq_false h15]; simp)))
    rw [decide_eq_false h15] at cN
    clear h15
    go_enter Try.func44, Try.ntmps44
    go_wp2_with fail
    rw [← Hwb.out]
    refine (cA _ hE).mono ?_
    rintro e w1 ⟨rfl, hE1⟩
    go_wp2_with fail
    refine (cB _ hE1).mono ?_
    rintro e w2 ⟨rfl, hE2⟩
    have hE2b := hE1.trans hE2
    go_wp2_with fail
    refine (cX _).mono ?_
    rintro e w3 ⟨rfl, rfl⟩
    go_wp2_with fail
    refine (cY _).mono ?_
    rintro e w3 ⟨rfl, rfl⟩
    go_wp2_with fail
    refine (cX _).mono ?_
    rintro e w3 ⟨rfl, rfl⟩
    go_wp2_with fail
    refine (cN _).mono ?_
    rintro e w3 ⟨rfl, rfl⟩
    go_wp2_with fail
    rw [H1.out.1, H1.out.2]
    exact bodyPost_ret (v := .tuple #[.slice (some ⟨(w2).heap.size, 0, none⟩) 0 0, .bool false]) (by simp [results, Try.results44, go_sem]) rfl ⟨_, rfl, own_made (TI := 3) (n := 0) (by omega) (hE0.trans hE2b) (castL []) rfl, Ext.alloc (hE0.trans hE2b) _⟩
  have h15' := Classical.not_not.1 h15
  clear h15
  have hel : (elems A).length = cnt A := rfl
  have hla : ∀ y ∈ elems A, y < 24 := fun y hy => elems_lt hy
  have hlb : ∀ y ∈ elems B, y < ord h := fun y hy => bit_lt hB2 (mem_elems.1 hy).2
  have HR : Hid (ffR g h A B = fiI g h (elems A) (elems B) (cnt A + 1) []) := Lib.hid (by
    have hC : ffC g h (A : Int) (B : Int) = true := by rw [HC.out, decide_eq_true Hc.out, decide_eq_true h15']; rfl
    unfold ffR; rw [hC]; simp)
  rw [decide_eq_true h15'] at cN
  have Hgg := Lib.hid hgg
  have Hgh := Lib.hid hgh
  have hmf : ∀ (fn : Fn) (first cap : Array Value) (w : World), (Instr.makeFunc fn first cap).run Try.prog w = .ok (.func fn first cap) w := fun _ _ _ _ => rfl
  have Hcp : Hid ((elems A).length ≤ 5) := Lib.hid (by rw [hel]; omega)
  clear h15' hel hgg hgh hA2 hB2
  go_enter Try.func44, Try.ntmps44
  go_wp2_with fail
  rw [← Hwb.out]
  refine (cA _ hE).mono ?_
  rintro e w1 ⟨rfl, hE1⟩
  go_wp2_with fail
  refine (cB _ hE1).mono ?_
  rintro e w2 ⟨rfl, hE2⟩
  have hE2b := hE1.trans hE2
  go_wp2_with fail
  refine (cX _).mono ?_
  rintro e w3 ⟨rfl, rfl⟩
  go_wp2_with fail
  refine (cY _).mono ?_
  rintro e w3 ⟨rfl, rfl⟩
  go_wp2_with fail
  refine (cX _).mono ?_
  rintro e w3 ⟨rfl, rfl⟩
  go_wp2_with fail
  refine (cN _).mono ?_
  rintro e w3 ⟨rfl, rfl⟩
  clear cA cB cX cY cN
  go_wp2_with fail
  refine (members_any A hA24 _).mono ?_
  rintro e w4 ⟨vL, rfl, hOL, hE4⟩
  go_wp2_with fail
  refine (members_any B hB24 _).mono ?_
  rintro e w5 ⟨vE, rfl, hOE, hE5⟩
  obtain ⟨aoL, cL, rfl, -⟩ := hOL.shape
  obtain ⟨aoE, cE, rfl, -⟩ := hOE.shape
  rw [castL_len] at hOL
  rw [castL_len] at hOE
  rw [castL_len, castL_len]
  have HOL := Lib.hid (hOL.ext hE5)
  have HOE := Lib.hid hOE
  clear hOL hOE
  go_wp2_with fail
  obtain ⟨x1, h1⟩ : ∃ x, x = w5.alloc (.cells #[.slice aoL (elems A).length cL] 22) := ⟨_, rfl⟩
  obtain ⟨x2, h2⟩ : ∃ x, x = x1.alloc (.cells #[.slice aoE (elems B).length cE] 22) := ⟨_, rfl⟩
  obtain ⟨x3, h3⟩ : ∃ x, x = x2.alloc (.cells #[] 3) := ⟨_, rfl⟩
  obtain ⟨x4, h4⟩ : ∃ x, x = x3.alloc (.cells #[.slice (some ⟨w5.heap.size + 1 + 1, 0, none⟩) 0 0] 22) := ⟨_, rfl⟩
  obtain ⟨x5, h5⟩ : ∃ x, x = x4.alloc (.cells #[.int .i64 0] 3) := ⟨_, rfl⟩
  obtain ⟨x6, h6⟩ : ∃ x, x = x5.alloc (.cells #[.func (.func 110) #[] #[.pointer (some ⟨w5.heap.size + 1 + 1 + 1, 0, none⟩), .pointer (some ⟨w5.heap.size, 0, none⟩), .pointer (some ⟨w.heap.size, 0, none⟩), .pointer (some ⟨w.heap.size + 1, 0, none⟩), .pointer (some ⟨w5.heap.size + 1, 0, none⟩), .pointer (some ⟨w5.heap.size + 1 + 1 + 1 + 1, 0, none⟩), .pointer (some ⟨w5.heap.size + 1 + 1 + 1 + 1 + 1, 0, none⟩)]] 89) := ⟨_, rfl⟩
  rw [← h1, ← h2, ← h3, ← h4, ← h5, ← h6]
  have s1 : x1.heap.size = w5.heap.size + 1 := by rw [h1]; simp
  have s2 : x2.heap.size = w5.heap.size + 1 + 1 := by rw [h2]; simp [s1]
  have s3 : x3.heap.size = w5.heap.size + 1 + 1 + 1 := by rw [h3]; simp [s2]
  have s4 : x4.heap.size = w5.heap.size + 1 + 1 + 1 + 1 := by rw [h4]; simp [s3]
  have s5 : x5.heap.size = w5.heap.size + 1 + 1 + 1 + 1 + 1 := by rw [h5]; simp [s4]
  have e01 : Ext w5 x1 := by rw [h1]; exact (Ext.refl _).alloc _
  have e12 : Ext x1 x2 := by rw [h2]; exact (Ext.refl _).alloc _
  have e23 : Ext x2 x3 := by rw [h3]; exact (Ext.refl _).alloc _
  have e34 : Ext x3 x4 := by rw [h4]; exact (Ext.refl _).alloc _
  have e45 : Ext x4 x5 := by rw [h5]; exact (Ext.refl _).alloc _
  have e56 : Ext x5 x6 := by rw [h6]; exact (Ext.refl _).alloc _
  have B1 : Blk x1 w5.heap.size 22 #[.slice aoL (elems A).length cL] := by rw [h1]; exact Blk.new _ _ _
  have B2 : Blk x2 (w5.heap.size + 1) 22 #[.slice aoE (elems B).length cE] := by rw [h2, ← s1]; exact Blk.new _ _ _
  have O3 : Own 3 x2 x3 (.slice (some ⟨w5.heap.size + 1 + 1, 0, none⟩) 0 0) [] := by rw [h3, ← s2]; exact own_made (TI := 3) (n := 0) (by omega) (Ext.refl x2) [] rfl
  have B4 : Blk x4 (w5.heap.size + 1 + 1 + 1) 22 #[.slice (some ⟨w5.heap.size + 1 + 1, 0, none⟩) 0 0] := by rw [h4, ← s3]; exact Blk.new _ _ _
  have B5 : Blk x5 (w5.heap.size + 1 + 1 + 1 + 1) 3 #[.int .i64 0] := by rw [h5, ← s4]; exact Blk.new _ _ _
  have B6 : Blk x6 (w5.heap.size + 1 + 1 + 1 + 1 + 1) 89 #[.func (.func 110) #[] #[.pointer (some ⟨w5.heap.size + 1 + 1 + 1, 0, none⟩), .pointer (some ⟨w5.heap.size, 0, none⟩), .pointer (some ⟨w.heap.size, 0, none⟩), .pointer (some ⟨w.heap.size + 1, 0, none⟩), .pointer (some ⟨w5.heap.size + 1, 0, none⟩), .pointer (some ⟨w5.heap.size + 1 + 1 + 1 + 1, 0, none⟩), .pointer (some ⟨w5.heap.size + 1 + 1 + 1 + 1 + 1, 0, none⟩)]] := by rw [h6, ← s5]; exact Blk.new _ _ _
  have e02 := e01.trans e12
  have e25 := e23.trans (e34.trans e45)
  have e26 := e25.trans e56
  have hEb2 := hE2b.trans (hE4.trans (hE5.trans e02))
  have HHB := Lib.hid hEb2
  have Hh6 := Lib.hid h6
  clear h1 h2 h3 h4 h5 h6
  have cT := tryF_any v u g h (elems A) (elems B) aoL aoE cL cE Hgg Hgh hla Hcp.out hlb (elems_len B) x2 (w5.heap.size + 1 + 1 + 1) w5.heap.size w.heap.size (w.heap.size + 1) (w5.heap.size + 1) (w5.heap.size + 1 + 1 + 1 + 1) (w5.heap.size + 1 + 1 + 1 + 1 + 1) (by omega) (by omega) (by omega) (by omega) (by omega) _
    (fun W hW => ((B1.ext e12).ext hW).cell (i := 0) rfl) (fun W hW => b0 W (hEb2.trans hW)) (fun W hW => b1 W (hEb2.trans hW)) (fun W hW => (B2.ext hW).cell (i := 0) rfl) (Lib.hid fun W hW => ⟨HV.out W (hEb2.trans hW), HU.out W (hEb2.trans hW), (HOL.out.ext (e02.trans hW)).ints, (HOE.out.ext (e02.trans hW)).ints⟩) rfl
    (cnt A + 1) [] _ x6 (by simp) (by simp [cnt]) (by simp) e26 (B4.ext (e45.trans e56)) (O3.ext (e34.trans (e45.trans e56))) (by simp [Value.ownBlock]) (B5.ext e56) B6
  obtain ⟨r, hr⟩ : ∃ r, r = fiI g h (elems A) (elems B) (cnt A + 1) [] := ⟨_, rfl⟩
  rw [← hr] at cT HR
  clear hr
  refine cT.mono ?_
  rintro e w7 ⟨rfl, v7, u7, hB7, -, -, hO7, hF7, -⟩
  have hE7 : Ext x2 w7 := hF7.ext e26 (by
    rintro k (rfl | rfl | hk)
    · omega
    · omega
    · simp [Value.ownBlock] at hk; omega)
  have hEf := hE0.trans (hEb2.trans hE7)
  clear hF7 cT
  cases r with
  | none =>
    have H1 := Lib.hid (ff_no HR.out)
    go_wp2_with fail
    rw [H1.out.1, H1.out.2]
    exact bodyPost_ret (v := .tuple #[.slice (some ⟨w7.heap.size, 0, none⟩) 0 0, .bool false]) (by simp [results, Try.results44, go_sem]) rfl ⟨_, rfl, own_made (TI := 3) (n := 0) (by omega) hEf (castL []) rfl, Ext.alloc hEf _⟩
  | some N =>
    have H1 := Lib.hid (ff_yes HR.out)
    obtain ⟨a7, c7, rfl, -⟩ := hO7.shape
    have hO8 : Own 3 x2 w7 (.slice a7 (castL N).length c7) (castL N) := hO7
    have hB8 : Blk w7 (w5.heap.size + 1 + 1 + 1) 22 #[.slice a7 (castL N).length c7] := hB7
    have k7 := hB8.cell (i := 0) (v := .slice a7 (castL N).length c7) rfl
    clear hO7 hB7
    go_wp2_with fail
    rw [H1.out.1, H1.out.2]
    exact bodyPost_ret (v := .tuple #[.slice a7 (castL N).length c7, .bool true]) (by simp [results, Try.results44, go_sem]) rfl ⟨_, rfl, hO8.mono (hE0.trans hEb2), hEf⟩
end Go.Zz
