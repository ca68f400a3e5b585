/- FindFreimanIso of the reference. -/
import Derived.Test.YtopokpamhojooaaC87
import Derived.Test.YtopokpamhojooaaC16
namespace Go.Zz
open Go.RowKit Go.Proofs
set_option maxHeartbeats 1000000
set_option maxRecDepth 8000

theorem ffR_not {g h : List Int} {a b : Int} (e : ffC g h a b = false) : ffR g h a b = none := by unfold ffR; rw [e]; rfl
theorem sFindFreimanIso_any (v u : Value) (g h : List Int) (a b : Int) (w : World) (hv : Ints w v g) (hu : Ints w u h) :
    Calls Try.prog 41 #[.agg #[v], .agg #[u], .int .i64 a, .int .i64 b] w fun e w' => ∃ v', e = .returned (.tuple #[v', .bool (ffB g h a b)]) ∧ Own 3 w w' v' (castL (ffL g h a b)) ∧ Ext w w' := by
  obtain ⟨wb, hwb⟩ : ∃ wb, wb = (w.alloc (.cells #[v] 30)).alloc (.cells #[u] 30) := ⟨_, rfl⟩
  have hE0 : Ext w wb := by rw [hwb]; exact ((Ext.refl _).alloc _).alloc _
  have B0 : Blk wb w.heap.size 30 #[v] := by rw [hwb]; exact (Blk.new _ _ _).alloc _
  have B1 : Blk wb (w.heap.size + 1) 30 #[u] := by rw [hwb]; simpa using Blk.new (w.alloc (.cells #[v] 30)) 30 #[u]
  have b0 : ∀ W, Ext wb W → W.cell? ⟨w.heap.size, 0, none⟩ = some v := fun W hW => (B0.ext hW).cell (i := 0) rfl
  have b1 : ∀ W, Ext wb W → W.cell? ⟨w.heap.size + 1, 0, none⟩ = some u := fun W hW => (B1.ext hW).cell (i := 0) rfl
  have HV := Lib.hid (fun W (hW : Ext wb W) => hv.ext (hE0.trans hW))
  have HU := Lib.hid (fun W (hW : Ext wb W) => hu.ext (hE0.trans hW))
  have hE := Ext.refl wb
  have Hwb := Lib.hid hwb
  clear hv hu hwb B0 B1
  have cA := fun W (hW : Ext wb W) => sIsSet_any v g a W (HV.out W hW)
  have cB := fun W (hW : Ext wb W) => sIsSet_any u h b W (HU.out W hW)
  cases hA : isSetB g a
  · have H1 := Lib.hid (ff_no (ffR_not (g := g) (h := h) (a := a) (b := b) (by unfold ffC; rw [hA]; rfl)))
    rw [hA] at cA
    clear hA cB
    go_enter Try.func41, Try.ntmps41
    go_wp2_with fail
    rw [← Hwb.out]
    refine (cA _ hE).mono ?_
    rintro e w1 ⟨rfl, hE1⟩
    go_wp2_with fail
    rw [H1.out.1, H1.out.2]
    exact bodyPost_ret (v := .tuple #[.slice (some ⟨(w1).heap.size, 0, none⟩) 0 0, .bool false]) (by simp [results, Try.results41, go_sem]) rfl ⟨_, rfl, own_made (TI := 3) (n := 0) (by omega) (hE0.trans hE1) (castL []) rfl, Ext.alloc (hE0.trans hE1) _⟩
  cases hB : isSetB h b
  · have H1 := Lib.hid (ff_no (ffR_not (g := g) (h := h) (a := a) (b := b) (by unfold ffC; rw [hB]; simp)))
    rw [hA] at cA
    rw [hB] at cB
    clear hA hB
    go_enter Try.func41, Try.ntmps41
    go_wp2_with fail
    rw [← Hwb.out]
    refine (cA _ hE).mono ?_
    rintro e w1 ⟨rfl, hE1⟩
    go_wp2_with fail
    refine (cB _ hE1).mono ?_
    rintro e w2 ⟨rfl, hE2⟩
    have hE2b := hE1.trans hE2
    go_wp2_with fail
    rw [H1.out.1, H1.out.2]
    exact bodyPost_ret (v := .tuple #[.slice (some ⟨(w2).heap.size, 0, none⟩) 0 0, .bool false]) (by simp [results, Try.results41, go_sem]) rfl ⟨_, rfl, own_made (TI := 3) (n := 0) (by omega) (hE0.trans hE2b) (castL []) rfl, Ext.alloc (hE0.trans hE2b) _⟩
  obtain ⟨A, rfl, hA2, hA24, hgg⟩ := isSetB_nat hA
  obtain ⟨B, rfl, hB2, hB24, hgh⟩ := isSetB_nat hB
  have HC : Hid (ffC g h A B = (decide (cnt A = cnt B) && decide (1 ≤ cnt A ∧ cnt A ≤ 5))) := Lib.hid (by unfold ffC; rw [hA, hB]; rfl)
  rw [hA] at cA
  rw [hB] at cB
  clear hA hB
  have cX := fun W => l3Bits_any A hA24 W
  have cY := fun W => l3Bits_any B hB24 W
  by_cases hc : ¬ cnt A = cnt B
  · have hcb : ((cnt A : Int) != (cnt B : Int)) = true := by rw [bne_iff_ne]; omega
    have H1 := Lib.hid (ff_no (ffR_not (g := g) (h := h) (a := A) (b := B) (by rw [HC.out, decide_eq_false hc]; rfl)))
    clear hc
    go_enter Try.func41, Try.ntmps41
    go_wp2_with fail
    rw [← Hwb.out]
    refine (cA _ hE).mono ?_
    rintro e w1 ⟨rfl, hE1⟩
    go_wp2_with fail
    refine (cB _ hE1).mono ?_
    rintro e w2 ⟨rfl, hE2⟩
    have hE2b := hE1.trans hE2
    go_wp2_with fail
    refine (cX _).mono ?_
    rintro e w3 ⟨rfl, rfl⟩
    go_wp2_with fail
    refine (cY _).mono ?_
    rintro e w3 ⟨rfl, rfl⟩
    go_wp2_with fail
    rw [H1.out.1, H1.out.2]
    exact bodyPost_ret (v := .tuple #[.slice (some ⟨(w2).heap.size, 0, none⟩) 0 0, .bool false]) (by simp [results, Try.results41, go_sem]) rfl ⟨_, rfl, own_made (TI := 3) (n := 0) (by omega) (hE0.trans hE2b) (castL []) rfl, Ext.alloc (hE0.trans hE2b) _⟩
  have hc' : cnt A = cnt B := Classical.not_not.1 hc
  have hcb : ((cnt A : Int) != (cnt B : Int)) = false := by rw [hc']; simp
  have Hc := Lib.hid hc'
  clear hc hc'
  have cN := fun W => l1In_any ((cnt A : Nat) : Int) 1 5 W
  have hin : inB ((cnt A : Nat) : Int) 1 5 = decide (1 ≤ cnt A ∧ cnt A ≤ 5) := by
    rw [Bool.eq_iff_iff, inB_t, decide_eq_true_iff]; omega
  rw [hin] at cN
  clear hin
  by_cases h15 : ¬ (1 ≤ cnt A ∧ cnt A ≤ 5)
  · have H1 := Lib.hid (ff_no (ffR_not (g := g) (h := h) (a := A) (b := B) (by rw [HC.out, decide_eq_false h15]; simp)))
    rw [decide_eq_false h15] at cN
    clear h15
    go_enter Try.func41, Try.ntmps41
    go_wp2_with fail
    rw [← Hwb.out]
    refine (cA _ hE).mono ?_
    rintro e w1 ⟨rfl, hE1⟩
    go_wp2_with fail
    refine (cB _ hE1).mono ?_
    rintro e w2 ⟨rfl, hE2⟩
    have hE2b := hE1.trans hE2
    go_wp2_with fail
    refine (cX _).mono ?_
    rintro e w3 ⟨rfl, rfl⟩
    go_wp2_with fail
    refine (cY _).mono ?_
    rintro e w3 ⟨rfl, rfl⟩
    go_wp2_with fail
    refine (cX _).mono ?_
    rintro e w3 ⟨rfl, rfl⟩
    go_wp2_with fail
    refine (cN _).mono ?_
    rintro e w3 ⟨rfl, rfl⟩
    go_wp2_with fail
    rw [H1.out.1, H1.out.2]
    exact bodyPost_ret (v := .tuple #[.slice (some ⟨(w2).heap.size, 0, none⟩) 0 0, .bool false]) (by simp [results, Try.results41, go_sem]) rfl ⟨_, rfl, own_made (TI := 3) (n := 0) (by omega) (hE0.trans hE2b) (castL []) rfl, Ext.alloc (hE0.trans hE2b) _⟩
  have h15' := Classical.not_not.1 h15
  clear h15
  have hel : (elems A).length = cnt A := rfl
  have hla : ∀ y ∈ elems A, y < ord g := fun y hy => bit_lt hA2 (mem_elems.1 hy).2
  have HR : Hid (ffR g h A B = fiS g h (elems A) (elems B) (cnt A + 1) []) := Lib.hid (by
    have hC : ffC g h (A : Int) (B : Int) = true := by rw [HC.out, decide_eq_true Hc.out, decide_eq_true h15']; rfl
    unfold ffR; rw [hC, fiS_eq _ _ _ _ _ _ (by simp)]; simp)
  rw [decide_eq_true h15'] at cN
  have Hgg := Lib.hid hgg
  have Hgh := Lib.hid hgh
  have cF := fun W0 W (hW : Ext wb W) (hW0 : Ext W0 W) gb (hB : Blk W gb 3 #[]) (hgb : W0.heap.size ≤ gb) vL (hL : Ints W vL (castL (elems A))) =>
    sFind_any v u g h (elems A) vL B Hgg Hgh (elems_nodup A) hla (by rw [hel]; exact h15'.1) (by rw [hel]; exact h15'.2) hB2 (cnt A + 1) [] _ W0 W (HV.out W hW) (HU.out W hW) hL (OwnE.own (wb := W0) (w0 := W0) (Or.inl ⟨gb, hgb, rfl, rfl, hB⟩) (Ext.refl _)) hW0 List.nodup_nil (by simp) (by simp) (by rw [hel]; simp)
  have Hcp : Hid (0 < cnt A) := Lib.hid (by omega)
  clear h15' hla hel hgg hgh hA2 hB2
  have cO : ∀ (W : World) (vF : Value) (Z : List Nat), (∀ N, fiS g h (elems A) (elems B) (cnt A + 1) [] = some N → Z = N) → (([] : List Nat).length < (elems A).length → fiS g h (elems A) (elems B) (cnt A + 1) [] = none → Z = []) → Z = ffL g h A B ∧ (fiS g h (elems A) (elems B) (cnt A + 1) []).isSome = ffB g h A B := fun W vF Z h1 h2 => by
    unfold ffL ffB
    rw [HR.out]
    cases hq : fiS g h (elems A) (elems B) (cnt A + 1) [] with
    | none => exact ⟨h2 Hcp.out hq, rfl⟩
    | some N => exact ⟨h1 N hq, rfl⟩
  have HcO := Lib.hid cO
  clear cO
  obtain ⟨R, hR⟩ : ∃ R, R = (fiS g h (elems A) (elems B) (cnt A + 1) []).isSome := ⟨_, rfl⟩
  rw [← hR] at cF HcO
  clear hR
  go_enter Try.func41, Try.ntmps41
  go_wp2_with fail
  rw [← Hwb.out]
  refine (cA _ hE).mono ?_
  rintro e w1 ⟨rfl, hE1⟩
  go_wp2_with fail
  refine (cB _ hE1).mono ?_
  rintro e w2 ⟨rfl, hE2⟩
  have hE2b := hE1.trans hE2
  go_wp2_with fail
  refine (cX _).mono ?_
  rintro e w3 ⟨rfl, rfl⟩
  go_wp2_with fail
  refine (cY _).mono ?_
  rintro e w3 ⟨rfl, rfl⟩
  go_wp2_with fail
  refine (cX _).mono ?_
  rintro e w3 ⟨rfl, rfl⟩
  go_wp2_with fail
  refine (cN _).mono ?_
  rintro e w3 ⟨rfl, rfl⟩
  clear cA cB cX cY cN
  have c0 := fun W (hW : Ext w2 W) => b0 W (hE2b.trans hW)
  have c1 := fun W (hW : Ext w2 W) => b1 W (hE2b.trans hW)
  have cF2 := fun W (hW : Ext w2 W) => cF w2 W (hE2b.trans hW) hW
  clear cF
  go_wp2_with fail
  first | (go_region_held3 (fun W => Ext w2 W ∧ W.cell? ⟨w.heap.size, 0, none⟩ = some v ∧ W.cell? ⟨w.heap.size + 1, 0, none⟩ = some u) (exact ⟨(by repeat (first | assumption | exact Ext.refl _ | (apply And.left; assumption) | apply Ext.drew | apply Ext.alloc)), c0 _ (by repeat (first | assumption | exact Ext.refl _ | (apply And.left; assumption) | apply Ext.drew | apply Ext.alloc)), c1 _ (by repeat (first | assumption | exact Ext.refl _ | (apply And.left; assumption) | apply Ext.drew | apply Ext.alloc))⟩) (first | (go_at_call 43; (with_reducible refine Calls.mono (l3List_any A hA24 _) ?_); rintro eH wL ⟨vL, rfl, hOL, hXL⟩; have hHL := Ext.trans (a := w2) (by repeat (first | assumption | exact Ext.refl _ | (apply And.left; assumption) | apply Ext.drew | apply Ext.alloc)) hXL) | (go_at_call 108; have hLi := hOL; (with_reducible refine Calls.mono (cF2 _ (by repeat (first | assumption | exact Ext.refl _ | (apply And.left; assumption) | apply Ext.drew | apply Ext.alloc)) _ (by repeat (first | (with_reducible assumption) | (with_reducible exact Blk.new _ _ _) | (with_reducible apply Blk.alloc) | (with_reducible apply Blk.drew) | (with_reducible refine Blk.ext ?_ hXL))) (by first | exact Nat.le_refl _ | exact hHL.size | (simp; omega)) _ (hLi.ints.ext (by repeat (first | assumption | exact Ext.refl _ | (apply And.left; assumption) | apply Ext.drew | apply Ext.alloc)))) ?_); rintro eF wF ⟨vF, Z, rfl, hOF, hZ1, hZ2, hXF⟩; have hHF := Ext.trans (a := w2) (by repeat (first | assumption | exact Ext.refl _ | (apply And.left; assumption) | apply Ext.drew | apply Ext.alloc)) hXF))) | (fail "the region")
  all_goals
    have HZ := Lib.hid (HcO.out wF vF Z hZ1 hZ2)
    have hEf := hE0.trans (hE2b.trans hHF)
    clear hZ1 hZ2
    go_wp2_with fail
    refine bodyPost_ret (v := .tuple #[vF, .bool R]) (by simp [results, Try.results41, go_sem]) rfl ⟨vF, by rw [HZ.out.2], by rw [← HZ.out.1]; exact hOF.mono (hE0.trans hE2b), hEf⟩
end Go.Zz
