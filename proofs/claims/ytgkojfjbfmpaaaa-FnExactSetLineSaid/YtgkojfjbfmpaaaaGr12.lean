/- Triples in progression: both; sets without progressions of the program. -/
import Derived.Test.YtgkojfjbfmpaaaaGr10
import Derived.Test.YtgkojfjbfmpaaaaGr11
import Derived.Test.YtgkojfjbfmpaaaaGr4
import Derived.Test.YtgkojfjbfmpaaaaGr6
import Derived.Laws.OwnMore
import Derived.Test.YtgkojfjbfmpaaaaGr9
import Derived.Deep.RegionHeld3
import Derived.Laws.EntriesVeiled
namespace Go.Zz
open Go.RowKit Go.Proofs
set_option maxHeartbeats 2000000
set_option maxRecDepth 4000

def apT (l : List Int) (L : List Nat) (i k j : Nat) : Bool := ((addF l (nthN L i) (nthN L k) : Nat) : Int) == ((addF l (nthN L j) (nthN L j) : Nat) : Int)
/-- n is 0 exactly where none of the triples of C is in progression -/
def ZT (l : List Int) (L : List Nat) (C : Nat → Nat → Nat → Prop) (n : Nat) : Prop := n = 0 ↔ ∀ i k j, C i k j → apT l L i k j = false
theorem ZT.congr {l : List Int} {L : List Nat} {C C' : Nat → Nat → Nat → Prop} {n : Nat} (h : ZT l L C n) (e : ∀ i k j, C i k j ↔ C' i k j) : ZT l L C' n :=
  h.trans ⟨fun H i k j hc => H i k j ((e i k j).2 hc), fun H i k j hc => H i k j ((e i k j).1 hc)⟩
theorem ZT.hit {l : List Int} {L : List Nat} {C C' : Nat → Nat → Nat → Prop} {n i k j : Nat} (ht : apT l L i k j = true) (hc : C' i k j) : ZT l L C' (n + 1) :=
  ⟨fun e => by omega, fun H => by have := H i k j hc; rw [ht] at this; cases this⟩
theorem ZT.miss {l : List Int} {L : List Nat} {C C' : Nat → Nat → Nat → Prop} {n i k j : Nat} (h : ZT l L C n) (ht : apT l L i k j = false) (e : ∀ a b c, C' a b c ↔ C a b c ∨ (a = i ∧ b = k ∧ c = j)) : ZT l L C' n :=
  h.trans ⟨fun H a b c hc => by
    rcases (e a b c).1 hc with h | ⟨rfl, rfl, rfl⟩
    · exact H a b c h
    · exact ht, fun H a b c hc => H a b c ((e a b c).2 (Or.inl hc))⟩
def apL (l : List Int) (L : List Nat) : Bool := (List.range L.length).all fun i => (List.range L.length).all fun k => (List.range L.length).all fun j => decide (k ≤ i) || !apT l L i k j
theorem apL_iff {l : List Int} {L : List Nat} : apL l L = true ↔ ∀ i k j, (i < k ∧ k < L.length ∧ j < L.length) → apT l L i k j = false := by
  unfold apL
  simp only [List.all_eq_true, List.mem_range]
  constructor
  · rintro H i k j ⟨h1, h2, h3⟩
    have := H i (by omega) k h2 j h3
    simpa [show ¬ k ≤ i by omega] using this
  · intro H i h1 k h2 j h3
    by_cases hk : k ≤ i
    · simp [hk]
    · rw [H i k j ⟨by omega, h2, h3⟩]; simp
def apB (l : List Int) (a : Int) : Bool := isSetB l a && apL l (elems a.toNat)
theorem apB_no {l : List Int} {a : Int} (h : isSetB l a = false) : apB l a = false := by unfold apB; rw [h]; rfl
theorem apB_yes {l : List Int} {n : Nat} (h : isSetB l n = true) : apB l n = apL l (elems n) := by unfold apB; rw [h]; rfl
theorem ZT.all {l : List Int} {L : List Nat} {n : Nat} (h : ZT l L (fun i k j => i < k ∧ k < L.length ∧ j < L.length) n) : ((n : Int) == 0) = apL l L := by
  rw [Bool.eq_iff_iff, beq_iff_eq, apL_iff]
  exact ⟨fun e => h.1 (by omega), fun H => by have := h.2 H; omega⟩
/-- e gives a number that is 0 exactly where b -/
def ZN (b : Bool) (e : Ending) : Prop := ∃ n : Int, e = .returned (.int .i64 n) ∧ (n == 0) = b ∧ (n != 0) = !b
theorem ZN.mk {n : Int} {b : Bool} (h : (n == 0) = b) : ZN b (.returned (.int .i64 n)) := ⟨n, rfl, h, by rw [← h]; rfl⟩
theorem TriplesIn_any (v : Value) (l : List Int) (a : Int) (w : World) (h : Ints w v l) :
    Calls Try.prog 164 #[.agg #[v], .int .i64 a] w fun e w' => ZN (apB l a) e ∧ Ext w w' := by
  obtain ⟨wb, hwb⟩ : ∃ wb, wb = w.alloc (.cells #[v] 26) := ⟨_, rfl⟩
  have hE0 := (Ext.refl w).alloc (.cells #[v] 26)
  have hb := box_cell w v 26
  rw [← hwb] at hE0 hb
  have hg : ∀ W, Ext wb W → Ints W v l := fun W hW => h.ext (hE0.trans hW)
  have hE := Ext.refl wb
  have Hsz : Hid (w.heap.size + 1 = wb.heap.size) := Lib.hid (by rw [hwb]; simp [go_sem])
  have Hwb := Lib.hid hwb
  clear hwb h
  have hbx := hb wb hE
  cases hs : isSetB l a
  · have Hs := Lib.hid (apB_no hs)
    go_enter Try.func164, Try.ntmps164
    go_wp2_with fail
    rw [← Hwb.out]
    go_wp2_with (first | (go_at_call 66; refine (IsSet_val _ _ _ _ (hg _ hE) (hs)).mono ?_; rintro e w' ⟨rfl, hE'⟩; replace hE := hE.trans hE'; clear hE'))
    go_ret
    exact ⟨by rw [Hs.out]; exact ZN.mk (by decide), hE0.trans hE⟩
  · obtain ⟨n, rfl, h1, h2, hgr⟩ := isSetB_nat hs
    have Hs := Lib.hid (apB_yes hs)
    have Hgr := Lib.hid hgr
    clear hgr
    go_enter Try.func164, Try.ntmps164
    go_wp2_with fail
    rw [← Hwb.out]
    go_wp2_with (first | (go_at_call 66; refine (IsSet_val _ _ _ _ (hg _ hE) (hs)).mono ?_; rintro e w' ⟨rfl, hE'⟩; replace hE := hE.trans hE'; clear hE') | (go_at_call 139; refine (members_any n h2 _).mono ?_; rintro e w1 ⟨v1, rfl, hL, hE1⟩; obtain ⟨aoL, cL, adrL, rfl, hcap, hadrL, hcellL⟩ := hL.ints.natc; have hixL := ints_index (c := cL) elI szI hadrL))
    have hb1 : ∀ W, Ext w1 W → W.cell? ⟨w.heap.size, 0, none⟩ = some v := fun W hW => hb W (hE.trans (hE1.trans hW))
    have hg1 : ∀ W, Ext w1 W → Ints W v l := fun W hW => hg W (hE.trans (hE1.trans hW))
    have eW := hE0.trans (hE.trans hE1)
    have hall : ∀ y ∈ elems n, y < 24 := fun y hy => elems_lt hy
    have hlen := elems_len n
    have HLI := Lib.hid (fun W (hW : Ext w1 W) => (hL.ext hW).ints)
    clear hb hg hbx hE hE1 hL hs
    generalize elems n = L at hcellL hixL hall hlen Hs hcap hadrL HLI ⊢
    have HcL := Lib.hid hcellL
    clear hadrL hcellL
    have hE := Ext.refl w1
    go_loopw [5, 21] (fun nv iv wr => ∃ i z : Nat, i ≤ L.length ∧ iv = .int .i64 i ∧ nv = .int .i64 z ∧ z ≤ 576 * i ∧ Hid (ZT l L (fun a b c => a < i ∧ a < b ∧ b < L.length ∧ c < L.length) z) ∧ Ext w1 wr) (fun _ iv _ => L.length - (intOf iv).toNat)
    case atStart => exact ⟨0, 0, by omega, rfl, rfl, by omega, Lib.hid ⟨fun _ a b c hc => by omega, fun _ => rfl⟩, hE⟩
    case round =>
      clear hE
      obtain ⟨i, z, hi, rfl, rfl, hz, HZ, hE⟩ := hrel
      by_cases hlt : i < L.length
      · have hck := HcL.out i _ hlt hE
        have hix24 := hall _ (nthN_mem hlt)
        obtain ⟨X, hX⟩ : ∃ X, X = nthN L i := ⟨_, rfl⟩
        rw [← hX] at hck hix24
        have HX := Lib.hid hX
        clear hX
        have hfl := fun W => run_cutFrom (P := Try.prog) elI szI aoL L.length cL ((i : Int) + 1) (by omega) (by omega) W
        have hfa := fun W => run_cutFromAt (P := Try.prog) elI szI aoL L.length cL ((i : Int) + 1) (by omega) (by omega) W
        rw [show ((i : Int) + 1).toNat = i + 1 by omega] at hfl hfa
        obtain ⟨ao2, c2, adr2, hv2, hlen2, hadr2, hcell2⟩ := ((HLI.out _ hE).drop (k := i + 1) (by rw [castL_len]; omega)).op
        have hl2 : ((castL L).drop (i + 1)).length = L.length - (i + 1) := by rw [List.length_drop, castL_len]
        have hix2 := ints_index (c := c2) elI szI hadr2
        obtain ⟨M, hM⟩ : ∃ M, M = ((castL L).drop (i + 1)).length := ⟨_, rfl⟩
        rw [← hM] at hv2 hix2 hl2
        have HM : Hid (i + 1 + M = L.length) := Lib.hid (by omega)
        have hM24 : M ≤ 24 := by omega
        have hc2 : ∀ t W, t < M → Ext wr W → W.cell? (adr2 t) = some (.int .i64 (nthN L (i + 1 + t) : Int)) := fun t W ht hW => by
          rw [hcell2 t W (by rw [← hM]; exact ht) hW]
          simp [nth, List.getD, List.getElem?_drop, nthN, castL]
          cases L[i + 1 + t]? <;> rfl
        rw [hv2] at hfl hfa
        have Hc2 := Lib.hid hc2
        clear hv2 hcell2 hadr2 hl2 hM hlen2 hc2
        go_wp2_with fail
        rename World => wi
        go_loopw [5, 31] (fun nv kv wr => ∃ t z : Nat, t ≤ M ∧ kv = .int .i64 t ∧ nv = .int .i64 z ∧ z ≤ 576 * i + 24 * t ∧ Hid (ZT l L (fun a b c => (a < i ∧ a < b ∧ b < L.length ∧ c < L.length) ∨ (a = i ∧ i < b ∧ b < i + 1 + t ∧ c < L.length)) z) ∧ Ext w1 wr ∧ Ext wi wr) (fun _ kv _ => M - (intOf kv).toNat)
        case atStart => exact ⟨0, z, by omega, rfl, rfl, by omega, Lib.hid (HZ.out.congr fun a b c => by omega), hE, Ext.refl _⟩
        case round =>
          clear hE hck hz HZ
          obtain ⟨t, z, ht, rfl, rfl, hz, HZ, hE, hEi⟩ := hrel
          by_cases hlt2 : t < M
          · have hkt : i + 1 + t < L.length := by have := HM.out; omega
            have hct := Hc2.out t _ hlt2 hEi
            have hy24 := hall _ (nthN_mem hkt)
            obtain ⟨Y, hY⟩ : ∃ Y, Y = nthN L (i + 1 + t) := ⟨_, rfl⟩
            rw [← hY] at hct hy24
            have HY := Lib.hid hY
            clear hY
            go_wp2_with fail
            go_loopw [5, 37] (fun nv jv wr => ∃ j z : Nat, j ≤ L.length ∧ jv = .int .i64 j ∧ nv = .int .i64 z ∧ z ≤ 576 * i + 24 * t + j ∧ Hid (ZT l L (fun a b c => (a < i ∧ a < b ∧ b < L.length ∧ c < L.length) ∨ (a = i ∧ i < b ∧ b < i + 1 + t ∧ c < L.length) ∨ (a = i ∧ b = i + 1 + t ∧ c < j)) z) ∧ Ext w1 wr ∧ Ext wi wr) (fun _ jv _ => L.length - (intOf jv).toNat)
            case atStart => exact ⟨0, z, by omega, rfl, rfl, by omega, Lib.hid (HZ.out.congr fun a b c => by omega), hE, hEi⟩
            case round =>
              clear hE hct hz HZ hEi
              obtain ⟨j, z, hj, rfl, rfl, hz, HZ, hE, hEi⟩ := hrel
              by_cases hlt3 : j < L.length
              · have hcj := HcL.out j _ hlt3 hE
                have hz24 := hall _ (nthN_mem hlt3)
                obtain ⟨Z, hZ⟩ : ∃ Z, Z = nthN L j := ⟨_, rfl⟩
                rw [← hZ] at hcj hz24
                have HZd := Lib.hid hZ
                clear hZ
                rename World => wj
                have hbj := fun U => hb1 _ (hE.trans (lat_ext wj U))
                have cA := fun U => add_any v l X Y (Lat wj U) (hg1 _ (hE.trans (lat_ext wj U))) Hgr (by omega) (by omega)
                have cB := fun U => add_any v l Z Z (Lat wj U) (hg1 _ (hE.trans (lat_ext wj U))) Hgr (by omega) (by omega)
                have hEj := hE
                clear hE
                have hE := Ext.refl wj
                cases hq : (((addF l X Y : Nat) : Int) == ((addF l Z Z : Nat) : Int))
                · have Hap : Hid (apT l L i (i + 1 + t) j = false) := Lib.hid (by unfold apT; rw [← HX.out, ← HY.out, ← HZd.out]; exact hq)
                  go_wp2_with fail
                  (refine wp_region_lat (wj) (by kernel_rfl) (by kernel_rfl) hE ?_); (repeat (go_big_quiet_step (first | (go_at_call 140; first | with_reducible exact Calls.lat (cA _) | with_reducible exact Calls.lat (cB _))))); (refine wpQuiet_nil ?_); (intro W hE'); (replace hE := lat_of hE'); (clear hE')
                  go_wp2_with fail
                  go_roundw
                  case rel => exact ⟨j + 1, z, by omega, by go_num, rfl, by omega, Lib.hid (HZ.out.miss Hap.out fun a b c => by omega), hEj.trans hE, hEi.trans hE⟩
                  case measure => (simp [intOf]; omega)
                · have Hap : Hid (apT l L i (i + 1 + t) j = true) := Lib.hid (by unfold apT; rw [← HX.out, ← HY.out, ← HZd.out]; exact hq)
                  go_wp2_with fail
                  (refine wp_region_lat (wj) (by kernel_rfl) (by kernel_rfl) hE ?_); (repeat (go_big_quiet_step (first | (go_at_call 140; first | with_reducible exact Calls.lat (cA _) | with_reducible exact Calls.lat (cB _))))); (refine wpQuiet_nil ?_); (intro W hE'); (replace hE := lat_of hE'); (clear hE')
                  go_wp2_with fail
                  go_roundw
                  case rel => exact ⟨j + 1, z + 1, by omega, by go_num, by go_num, by omega, Lib.hid (ZT.hit (C := fun _ _ _ => True) Hap.out (by omega)), hEj.trans hE, hEi.trans hE⟩
                  case measure => (simp [intOf]; omega)
              · have hjl : j = L.length := by omega
                have Hn := Lib.hid (HZ.out.congr (C' := fun a b c => (a < i ∧ a < b ∧ b < L.length ∧ c < L.length) ∨ (a = i ∧ i < b ∧ b < i + 1 + (t + 1) ∧ c < L.length)) fun a b c => by omega)
                have hz2 : z ≤ 576 * i + 24 * (t + 1) := by omega
                clear hjl
                go_wp2_with fail
                go_roundw
                case rel => exact ⟨t + 1, z, by omega, by go_num, rfl, hz2, Hn, hE, hEi⟩
                case measure => (simp [intOf]; omega)
          · have Hn : Hid (ZT l L (fun a b c => a < i + 1 ∧ a < b ∧ b < L.length ∧ c < L.length) z) := Lib.hid (HZ.out.congr fun a b c => by have := HM.out; omega)
            have hz2 : z ≤ 576 * (i + 1) := by omega
            go_wp2_with fail
            go_roundw
            case rel => exact ⟨i + 1, z, by omega, by go_num, rfl, hz2, Hn, hE⟩
            case measure => (simp [intOf]; omega)
      · have hil : i = L.length := by omega
        have Hz : Hid (((z : Int) == 0) = apL l L) := Lib.hid (ZT.all (HZ.out.congr fun a b c => by omega))
        clear hil
        go_wp2_with fail
        go_ret
        exact ⟨by rw [Hs.out]; exact ZN.mk Hz.out, eW.trans hE⟩
theorem IsApFree_any (v : Value) (l : List Int) (a : Int) (w : World) (h : Ints w v l) :
    Calls Try.prog 119 #[.agg #[v], .int .i64 a] w fun e w' => e = .returned (.bool (apB l a)) ∧ Ext w w' := by
  obtain ⟨wb, hwb⟩ : ∃ wb, wb = w.alloc (.cells #[v] 26) := ⟨_, rfl⟩
  have hE0 := (Ext.refl w).alloc (.cells #[v] 26)
  have hb := box_cell w v 26
  rw [← hwb] at hE0 hb
  have hg : ∀ W, Ext wb W → Ints W v l := fun W hW => h.ext (hE0.trans hW)
  have hE := Ext.refl wb
  have Hsz : Hid (w.heap.size + 1 = wb.heap.size) := Lib.hid (by rw [hwb]; simp [go_sem])
  have Hwb := Lib.hid hwb
  clear hwb h
  have hbx := hb wb hE
  have cT := TriplesIn_any v l a wb (hg _ hE)
  go_enter Try.func119, Try.ntmps119
  go_wp2_with fail
  rw [← Hwb.out]
  refine cT.mono ?_
  rintro e w1 ⟨⟨n, rfl, hn, -⟩, hE1⟩
  go_wp2_with fail
  go_ret
  exact ⟨rfl, hE0.trans hE1⟩
end Go.Zz

/- Plain facts on the search for a first largest set with a property that parts keep; cliques. No program is named here. -/
namespace Go.Zz
set_option linter.unusedVariables false

/-- the elements from fr on by which b may grow -/
def kidN (P : Nat → Bool) (N b fr : Nat) : Nat := bset ((List.range N).filter (fun x => decide (fr ≤ x) && P (b ||| 2 ^ x)))
theorem kidN_bit {P : Nat → Bool} {N b fr i : Nat} : (kidN P N b fr).testBit i = (decide (i < N) && (decide (fr ≤ i) && P (b ||| 2 ^ i))) := by
  unfold kidN; rw [testBit_bset, Bool.eq_iff_iff]; simp [List.mem_filter]
theorem kidN_lt (P : Nat → Bool) (N b fr : Nat) : kidN P N b fr < 2 ^ N := bset_lt fun _ hx => List.mem_range.1 (List.mem_filter.1 hx).1
def fsS (P : Nat → Bool) (N : Nat) : Nat → Nat → Nat → Nat
  | 0, b, _ => b
  | f + 1, b, fr => (elems (kidN P N b fr)).foldl (fun (best x : Nat) => if cnt best < cnt (fsS P N f (b ||| 2 ^ x) (x + 1)) then fsS P N f (b ||| 2 ^ x) (x + 1) else best) b
def fsSto (P : Nat → Bool) (N f b fr k : Nat) : Nat := ((elems (kidN P N b fr)).take k).foldl (fun (best x : Nat) => if cnt best < cnt (fsS P N f (b ||| 2 ^ x) (x + 1)) then fsS P N f (b ||| 2 ^ x) (x + 1) else best) b
theorem fsS_end (P : Nat → Bool) (N f b fr : Nat) : fsS P N (f + 1) b fr = fsSto P N f b fr (elems (kidN P N b fr)).length := by unfold fsSto; rw [List.take_length]; rfl
theorem fsSto_zero (P : Nat → Bool) (N f b fr : Nat) : fsSto P N f b fr 0 = b := rfl
theorem fsSto_more {P : Nat → Bool} {N f b fr k : Nat} (hk : k < (elems (kidN P N b fr)).length) (h : cnt (fsSto P N f b fr k) < cnt (fsS P N f (b ||| 2 ^ nthN (elems (kidN P N b fr)) k) (nthN (elems (kidN P N b fr)) k + 1))) :
    fsSto P N f b fr (k + 1) = fsS P N f (b ||| 2 ^ nthN (elems (kidN P N b fr)) k) (nthN (elems (kidN P N b fr)) k + 1) := by
  unfold fsSto at h ⊢; rw [take_nthN _ _ hk, List.foldl_append]; simp only [List.foldl_cons, List.foldl_nil]; rw [if_pos h]
theorem fsSto_less {P : Nat → Bool} {N f b fr k : Nat} (hk : k < (elems (kidN P N b fr)).length) (h : ¬ cnt (fsSto P N f b fr k) < cnt (fsS P N f (b ||| 2 ^ nthN (elems (kidN P N b fr)) k) (nthN (elems (kidN P N b fr)) k + 1))) :
    fsSto P N f b fr (k + 1) = fsSto P N f b fr k := by
  unfold fsSto at h ⊢; rw [take_nthN _ _ hk, List.foldl_append]; simp only [List.foldl_cons, List.foldl_nil]; rw [if_neg h]
/-- the same with the best one so far and its size -/
def fsI (P : Nat → Bool) (N : Nat) : Nat → Nat → Nat → Nat → Nat × Int → Nat × Int
  | 0, b, n, _, s => if s.2 < n then (b, n) else s
  | f + 1, b, n, fr, s => (elems (kidN P N b fr)).foldl (fun (s : Nat × Int) (x : Nat) => fsI P N f (b ||| 2 ^ x) (n + 1) (x + 1) s) (if s.2 < n then (b, n) else s)
/-- after the elements below k -/
def fsIto (P : Nat → Bool) (N f b n fr : Nat) (s : Nat × Int) (k : Nat) : Nat × Int := (elemsTo (kidN P N b fr) k).foldl (fun (s : Nat × Int) (x : Nat) => fsI P N f (b ||| 2 ^ x) (n + 1) (x + 1) s) (if s.2 < n then (b, n) else s)
theorem fsI_end {P : Nat → Bool} {N : Nat} (hN : N ≤ 24) (f b n fr : Nat) (s : Nat × Int) : fsI P N (f + 1) b n fr s = fsIto P N f b n fr s N := by
  unfold fsIto; rw [elemsTo_all hN (kidN_lt P N b fr)]; rfl
theorem elemsTo_nil0 {a k : Nat} (h : ∀ i, i < k → a.testBit i = false) : elemsTo a k = [] := by
  unfold elemsTo; rw [List.filter_eq_nil_iff]; intro i hi; rw [h i (List.mem_range.1 hi)]; simp
theorem fsIto_start {P : Nat → Bool} {N f b n fr : Nat} {s : Nat × Int} : fsIto P N f b n fr s fr = if s.2 < n then (b, (n : Int)) else s := by
  unfold fsIto; rw [elemsTo_nil0 fun i hi => by rw [kidN_bit]; simp; intro _ h; omega]; rfl
theorem fsIto_yes {P : Nat → Bool} {N f b n fr k : Nat} {s : Nat × Int} (h1 : k < N) (h2 : fr ≤ k) (h : P (b ||| 2 ^ k) = true) : fsIto P N f b n fr s (k + 1) = fsI P N f (b ||| 2 ^ k) (n + 1) (k + 1) (fsIto P N f b n fr s k) := by
  unfold fsIto; rw [elemsTo_succ, show (kidN P N b fr).testBit k = true by rw [kidN_bit, h]; simp [h1, h2], if_pos rfl, List.foldl_append]; rfl
theorem fsIto_no {P : Nat → Bool} {N f b n fr k : Nat} {s : Nat × Int} (h : P (b ||| 2 ^ k) = false) : fsIto P N f b n fr s (k + 1) = fsIto P N f b n fr s k := by
  unfold fsIto; rw [elemsTo_succ, show (kidN P N b fr).testBit k = false by rw [kidN_bit, h]; simp]; simp
theorem bit_two (x i : Nat) : (2 ^ x).testBit i = decide (x = i) := Nat.testBit_two_pow
theorem cnt_or_new {b x : Nat} (hb : b < 2 ^ 24) (hx : x < 24) (h : b.testBit x = false) : cnt (b ||| 2 ^ x) = cnt b + 1 := by
  have h1 := cnt_sub (Sub.or_left b (2 ^ x))
  have e : andN (b ||| 2 ^ x) b = 2 ^ x := Nat.eq_of_testBit_eq fun i => by
    rw [andN_bit, Nat.testBit_or, bit_two]
    by_cases hi : x = i
    · subst hi; simp [h]
    · simp [hi]
  rw [e] at h1
  have h2 : elems (2 ^ x) = (List.range 24).filter (fun i => decide (x = i)) := by unfold elems; congr 1; funext i; exact bit_two x i
  have h3 : cnt (2 ^ x) = 1 := by
    unfold cnt; rw [h2]
    have : ∀ n, x < n → ((List.range n).filter (fun i => decide (x = i))).length = 1 := by
      intro n
      induction n with
      | zero => omega
      | succ n ih =>
        intro hn
        rw [List.range_succ, List.filter_append, List.length_append]
        by_cases hxn : x = n
        · subst hxn
          have : (List.range x).filter (fun i => decide (x = i)) = [] := by rw [List.filter_eq_nil_iff]; intro i hi; have := List.mem_range.1 hi; simp; omega
          rw [this]; simp
        · rw [ih (by omega)]; simp [hxn]
    exact this 24 hx
  omega
/-- both searches find the same -/
theorem fsI_eq (P : Nat → Bool) (N : Nat) (hN : N ≤ 24) : ∀ (f b fr : Nat) (s : Nat × Int), b < 2 ^ fr → fr ≤ N → fsI P N f b (cnt b) fr s = if s.2 < cnt (fsS P N f b fr) then (fsS P N f b fr, (cnt (fsS P N f b fr) : Int)) else s := by
  intro f
  induction f with
  | zero => intro b fr s _ _; rfl
  | succ f ih =>
    intro b fr s hb hfr
    unfold fsI fsS
    have key : ∀ (L : List Nat), (∀ x ∈ L, fr ≤ x ∧ x < N) → ∀ r, (L.foldl (fun (s : Nat × Int) (x : Nat) => fsI P N f (b ||| 2 ^ x) (cnt b + 1) (x + 1) s) (if s.2 < cnt r then (r, (cnt r : Int)) else s)) =
        (if s.2 < cnt (L.foldl (fun (best x : Nat) => if cnt best < cnt (fsS P N f (b ||| 2 ^ x) (x + 1)) then fsS P N f (b ||| 2 ^ x) (x + 1) else best) r) then (L.foldl (fun (best x : Nat) => if cnt best < cnt (fsS P N f (b ||| 2 ^ x) (x + 1)) then fsS P N f (b ||| 2 ^ x) (x + 1) else best) r, (cnt (L.foldl (fun (best x : Nat) => if cnt best < cnt (fsS P N f (b ||| 2 ^ x) (x + 1)) then fsS P N f (b ||| 2 ^ x) (x + 1) else best) r) : Int)) else s) := by
      intro L
      induction L with
      | nil => intro _ r; rfl
      | cons x L ih2 =>
        intro hL r
        obtain ⟨hx1, hx2⟩ := hL x (by simp)
        have hbx : b.testBit x = false := testBit_ge hb hx1
        have hb24 : b < 2 ^ 24 := Nat.lt_of_lt_of_le hb (Nat.pow_le_pow_right (by omega) (by omega))
        have hc := cnt_or_new hb24 (show x < 24 by omega) hbx
        have hb2 : b ||| 2 ^ x < 2 ^ (x + 1) := Nat.or_lt_two_pow (Nat.lt_of_lt_of_le hb (Nat.pow_le_pow_right (by omega) (by omega))) (Nat.pow_lt_pow_right (by omega) (by omega))
        simp only [List.foldl_cons]
        have e := fun s => ih (b ||| 2 ^ x) (x + 1) s hb2 (by omega)
        rw [hc] at e
        have e2 : fsI P N f (b ||| 2 ^ x) (cnt b + 1) (x + 1) (if s.2 < cnt r then (r, (cnt r : Int)) else s) =
            (if s.2 < cnt (if cnt r < cnt (fsS P N f (b ||| 2 ^ x) (x + 1)) then fsS P N f (b ||| 2 ^ x) (x + 1) else r) then ((if cnt r < cnt (fsS P N f (b ||| 2 ^ x) (x + 1)) then fsS P N f (b ||| 2 ^ x) (x + 1) else r), (cnt (if cnt r < cnt (fsS P N f (b ||| 2 ^ x) (x + 1)) then fsS P N f (b ||| 2 ^ x) (x + 1) else r) : Int)) else s) := by
          rw [e]
          generalize fsS P N f (b ||| 2 ^ x) (x + 1) = y
          by_cases h1 : s.2 < cnt r <;> by_cases h2 : cnt r < cnt y <;> by_cases h3 : s.2 < cnt y <;> simp [h1, h2, h3] <;> omega
        rw [e2]
        exact ih2 (fun y hy => hL y (by simp [hy])) _
    refine key _ (fun x hx => ?_) b
    have := (mem_elems.1 hx).2
    rw [kidN_bit] at this
    simp at this; omega

theorem fsS_lt (P : Nat → Bool) (N : Nat) (hN : N ≤ 24) : ∀ (f b fr : Nat), b < 2 ^ 24 → fsS P N f b fr < 2 ^ 24 := by
  intro f
  induction f with
  | zero => intro b fr h; exact h
  | succ f ih =>
    intro b fr h
    unfold fsS
    have key : ∀ (L : List Nat), (∀ x ∈ L, x < 24) → ∀ r, r < 2 ^ 24 → L.foldl (fun (best x : Nat) => if cnt best < cnt (fsS P N f (b ||| 2 ^ x) (x + 1)) then fsS P N f (b ||| 2 ^ x) (x + 1) else best) r < 2 ^ 24 := by
      intro L
      induction L with
      | nil => intro _ r hr; exact hr
      | cons x L ih2 =>
        intro hL r hr
        simp only [List.foldl_cons]
        refine ih2 (fun y hy => hL y (by simp [hy])) _ ?_
        split
        · exact ih _ _ (Nat.or_lt_two_pow h (Nat.pow_lt_pow_right (by omega) (hL x (by simp))))
        · exact hr
    exact key _ (fun x hx => elems_lt hx) b h

/-! ### cliques -/
def cliP (l : List Int) (a b : Nat) : Bool := decide (andN (sumF l b (oppF l b)) (a ||| 1) = 0)
theorem cliP_iff {l : List Int} (hg : isGrp l = true) {a b : Nat} : cliP l a b = true ↔ ∀ y z, y < 24 → z < 24 → b.testBit y = true → b.testBit z = true → (a ||| 1).testBit (addF l y (negF l z)) = true := by
  unfold cliP
  rw [decide_eq_true_iff, andN_zero]
  constructor
  · intro h y z hy hz hby hbz
    exact h _ (testBit_sumF.2 ⟨y, negF l z, hy, hby, negF_bd hg z, testBit_oppF.2 ⟨z, hz, hbz, rfl⟩, rfl⟩)
  · intro h i hi
    obtain ⟨y, w, hy, hby, _, hw, rfl⟩ := testBit_sumF.1 hi
    obtain ⟨z, hz, hbz, rfl⟩ := testBit_oppF.1 hw
    exact h y z hy hz hby hbz
theorem addF_zero' {l : List Int} (h : Ords l) {x : Nat} (hx : x < ord l) : addF l x 0 = x := by rw [addF_comm]; exact addF_zero l h x hx
theorem neg_neg {l : List Int} (h : Ords l) {x : Nat} (hx : x < ord l) : negF l (negF l x) = x := by
  have h1 : addF l (negF l x) (negF l (negF l x)) = addF l (negF l x) x := by rw [addF_neg l h, addF_comm, addF_neg l h]
  exact addF_cancel h (negF_lt l h _) hx h1
/-- z = y + (z - y) -/
theorem add_sub {l : List Int} (h : Ords l) {y z : Nat} (hz : z < ord l) : addF l y (addF l z (negF l y)) = z := by
  rw [addF_comm l z, ← addF_assoc l h, addF_neg l h, addF_zero l h _ hz]
theorem neg_sub {l : List Int} (h : Ords l) {y z : Nat} (hy : y < ord l) (hz : z < ord l) : negF l (addF l y (negF l z)) = addF l z (negF l y) := by
  have e : addF l (addF l y (negF l z)) (addF l z (negF l y)) = 0 := by
    rw [addF_assoc l h, ← addF_assoc l h (negF l z), addF_comm l (negF l z) z, addF_neg l h, addF_zero l h _ (negF_lt l h _), addF_neg l h]
  exact (addF_cancel h (addF_lt l h _ _) (negF_lt l h _) (by rw [e, addF_neg l h])).symm
theorem one_bit (i : Nat) : (1 : Nat).testBit i = decide (i = 0) := by
  have := bit_two 0 i; rw [show (2:Nat) ^ 0 = 1 from rfl] at this; rw [this, Bool.eq_iff_iff]; simp; exact eq_comm
theorem conn_self (l : List Int) (h : Ords l) (a y : Nat) : (a ||| 1).testBit (addF l y (negF l y)) = true := by rw [addF_neg l h, Nat.testBit_or, one_bit]; simp
/-- joined by i - x -/
theorem conn_iff {l : List Int} (hg : isGrp l = true) {a x i : Nat} (ha : a < 2 ^ ord l) (hx : x < ord l) (hi : i < ord l) (hne : x ≠ i) : (a ||| 1).testBit (addF l i (negF l x)) = (shiftF l a x).testBit i := by
  have h := isGrp_ords hg
  have h0 : addF l i (negF l x) ≠ 0 := fun e => by
    have := add_sub h (y := x) hi
    rw [e, addF_zero' h hx] at this; exact hne this
  rw [Nat.testBit_or, one_bit, show decide (addF l i (negF l x) = 0) = false from decide_eq_false h0, Bool.or_false]
  refine bool_eq_of ⟨fun e => testBit_shiftF.2 ⟨_, addF_bd hg _ _, e, add_sub h hi⟩, fun e => ?_⟩
  obtain ⟨y, hy, hay, he⟩ := testBit_shiftF.1 e
  rw [← he, addF_comm l x y, addF_assoc l h, addF_neg l h, addF_zero' h (bit_lt ha hay)]
  exact hay
theorem conn_symm {l : List Int} (hg : isGrp l = true) {a y z : Nat} (ho : oppF l a = a) (hy : y < ord l) (hz : z < ord l) (h : (a ||| 1).testBit (addF l y (negF l z)) = true) : (a ||| 1).testBit (addF l z (negF l y)) = true := by
  have hO := isGrp_ords hg
  rw [Nat.testBit_or, one_bit] at h ⊢
  rw [Bool.or_eq_true] at h ⊢
  rcases h with h | h
  · left
    rw [← ho]
    exact testBit_oppF.2 ⟨_, addF_bd hg _ _, h, neg_sub hO hy hz⟩
  · right
    rw [decide_eq_true_iff] at h ⊢
    have h1 := add_sub hO (y := z) hy
    rw [h, addF_zero' hO hz] at h1
    rw [h1, addF_neg l hO]
/-- the candidates of the next step -/
theorem cli_next {l : List Int} (hg : isGrp l = true) {a b fr x : Nat} (ha : a < 2 ^ ord l) (ho : oppF l a = a) (hb : b < 2 ^ fr) (hx : (kidN (cliP l a) (ord l) b fr).testBit x = true) (i : Nat) :
    (kidN (cliP l a) (ord l) (b ||| 2 ^ x) (x + 1)).testBit i = (decide (x + 1 ≤ i) && ((kidN (cliP l a) (ord l) b fr).testBit i && (shiftF l a x).testBit i)) := by
  have hob := ord_bd hg
  rw [kidN_bit] at hx
  simp only [Bool.and_eq_true, decide_eq_true_eq] at hx
  obtain ⟨hx1, hx2, hx3⟩ := hx
  rw [kidN_bit, kidN_bit]
  by_cases hi : i < ord l
  rotate_left
  · simp [hi]
  by_cases hxi : x + 1 ≤ i
  rotate_left
  · simp [hxi]
  rw [← conn_iff hg ha hx1 hi (by omega)]
  simp only [hi, hxi, show fr ≤ i by omega, decide_true, Bool.true_and]
  rw [cliP_iff hg] at hx3
  refine bool_eq_of ⟨fun h => ?_, fun h => ?_⟩
  · rw [cliP_iff hg] at h
    rw [Bool.and_eq_true, cliP_iff hg]
    refine ⟨fun y z hy hz hby hbz => h y z hy hz ?_ ?_, h i x (by omega) (by omega) (by rw [Nat.testBit_or, bit_two]; simp) (by rw [Nat.testBit_or, Nat.testBit_or, bit_two]; simp)⟩
    · rw [Nat.testBit_or, Bool.or_eq_true] at hby; rw [Nat.testBit_or, Nat.testBit_or]; rcases hby with e | e <;> simp [e]
    · rw [Nat.testBit_or, Bool.or_eq_true] at hbz; rw [Nat.testBit_or, Nat.testBit_or]; rcases hbz with e | e <;> simp [e]
  · rw [Bool.and_eq_true, cliP_iff hg] at h
    obtain ⟨h1, h2⟩ := h
    rw [cliP_iff hg]
    have part : ∀ y, (b ||| 2 ^ x ||| 2 ^ i).testBit y = true → (b.testBit y = true ∨ y = x) ∨ y = i := by
      intro y hy
      rw [Nat.testBit_or, Nat.testBit_or, bit_two, bit_two] at hy
      simp only [Bool.or_eq_true, decide_eq_true_eq] at hy
      rcases hy with (e | e) | e
      · exact Or.inl (Or.inl e)
      · exact Or.inl (Or.inr e.symm)
      · exact Or.inr e.symm
    have inx : ∀ y, (b.testBit y = true ∨ y = x) → (b ||| 2 ^ x).testBit y = true := by
      rintro y (e | rfl)
      · rw [Nat.testBit_or, e]; rfl
      · rw [Nat.testBit_or, bit_two]; simp
    have ini : ∀ y, (b.testBit y = true ∨ y = i) → (b ||| 2 ^ i).testBit y = true := by
      rintro y (e | rfl)
      · rw [Nat.testBit_or, e]; rfl
      · rw [Nat.testBit_or, bit_two]; simp
    intro y z hy hz hby hbz
    rcases part y hby with hy1 | rfl
    · rcases part z hbz with hz1 | rfl
      · exact hx3 y z hy hz (inx y hy1) (inx z hz1)
      · rcases hy1 with hy1 | rfl
        · exact h1 y z hy hz (ini y (Or.inl hy1)) (ini z (Or.inr rfl))
        · exact conn_symm hg ho hi hx1 h2
    · rcases part z hbz with hz1 | rfl
      · rcases hz1 with hz1 | rfl
        · exact h1 y z hy hz (ini y (Or.inr rfl)) (ini z (Or.inl hz1))
        · exact h2
      · exact conn_self l (isGrp_ords hg) a _
theorem cli_start {l : List Int} (hg : isGrp l = true) (a : Nat) : kidN (cliP l a) (ord l) 0 0 = fullN l := by
  apply Nat.eq_of_testBit_eq
  intro i
  rw [kidN_bit, fullN_bit]
  by_cases hi : i < ord l
  · have : cliP l a (2 ^ i) = true := by
      rw [cliP_iff hg]
      intro y z _ _ hy hz
      rw [bit_two, decide_eq_true_iff] at hy hz
      subst hy; subst hz
      exact conn_self l (isGrp_ords hg) a i
    simp [hi, this]
  · simp [hi]
/-- left & s, shifted down and up again -/
theorem cut_bits (m s x i : Nat) : (shr (m &&& s) (x + 1) * 2 ^ (x + 1)).testBit i = (decide (x + 1 ≤ i) && (m.testBit i && s.testBit i)) := by
  unfold shr
  rw [← Nat.shiftLeft_eq, Nat.testBit_shiftLeft, Nat.testBit_shiftRight]
  by_cases h : x + 1 ≤ i
  · simp [h, Nat.testBit_and]
  · simp [h]
def lcF (l : List Int) (a : Int) : Bool := connB l a && decide (ord l ≤ 16)
def lcV (l : List Int) (a : Int) : Int := if lcF l a then (fsS (cliP l a.toNat) (ord l) (ord l + 1) 0 0 : Nat) else 0
end Go.Zz

/- What stays where a call writes into one box and grows the slice that lies in it. -/
namespace Go.Zz
open Go.RowKit Go.Proofs
set_option maxHeartbeats 1000000

theorem own_nb {TI : TypeId} {w0 w : World} {v : Value} {l : List Int} {b : Nat} (h : Own TI w0 w v l) (hb : b < w0.heap.size) : v.ownBlock ≠ some b := fun e => by have := (h.blk b e).1; omega
/-- w' is w with new blocks, and writes to block b and to the row o alone -/
structure Fr (b : Nat) (o : Option Nat) (w w' : World) : Prop where
  os : w'.os = w.os
  tape : w'.tape = w.tape
  output : w'.output = w.output
  size : w.heap.size ≤ w'.heap.size
  block : ∀ k, k < w.heap.size → k ≠ b → some k ≠ o → w'.heap[k]? = w.heap[k]?
/-- the row o' is the row o, or newer than w -/
def Nw (o : Option Nat) (w : World) (o' : Option Nat) : Prop := o' = o ∨ ∀ k, o' = some k → w.heap.size ≤ k
theorem Fr.refl (b : Nat) (o : Option Nat) (w : World) : Fr b o w w := ⟨rfl, rfl, rfl, Nat.le_refl _, fun _ _ _ _ => rfl⟩
theorem Nw.refl (o : Option Nat) (w : World) : Nw o w o := Or.inl rfl
theorem Fr.trans {b : Nat} {o o1 : Option Nat} {w w1 w2 : World} (h : Fr b o w w1) (hn : Nw o w o1) (k : Fr b o1 w1 w2) : Fr b o w w2 :=
  ⟨k.os.trans h.os, k.tape.trans h.tape, k.output.trans h.output, Nat.le_trans h.size k.size, fun i hi hb ho => by
    rw [k.block i (Nat.lt_of_lt_of_le hi h.size) hb fun e => ?_, h.block i hi hb ho]
    rcases hn with hn | hn
    · rw [hn] at e; exact ho e
    · have := hn i e.symm; omega⟩
theorem Nw.trans {o o1 o2 : Option Nat} {w w1 : World} (h : Nw o w o1) (hs : w.heap.size ≤ w1.heap.size) (k : Nw o1 w1 o2) : Nw o w o2 := by
  rcases k with k | k
  · rw [k]; exact h
  · exact Or.inr fun i hi => Nat.le_trans hs (k i hi)
theorem Ext.fr {w w' : World} (h : Ext w w') (b : Nat) (o : Option Nat) : Fr b o w w' := ⟨h.os, h.tape, h.output, h.size, fun k hk _ _ => h.block k hk⟩
theorem fr_grown {b : Nat} {o : Option Nat} {w w' : World} (h : w.grownBy w' o) : Fr b o w w' := ⟨h.os, h.tape, h.output, h.size, fun k hk _ ho => h.block k hk ho⟩
theorem fr_set (b : Nat) (o : Option Nat) (w : World) (i : Nat) (v : Value) : Fr b o w (w.setCell ⟨b, i, none⟩ v) :=
  ⟨rfl, rfl, rfl, by simp, fun k _ hb _ => Below.heap_setCell _ _ _ _ (fun e => hb e)⟩
theorem Fr.ext {b : Nat} {o : Option Nat} {w0 w w' : World} (h : Fr b o w w') (hE : Ext w0 w) (hb : w0.heap.size ≤ b) (ho : ∀ k, o = some k → w0.heap.size ≤ k) : Ext w0 w' := by
  have hs := hE.size
  refine ⟨h.os.trans hE.os, h.tape.trans hE.tape, h.output.trans hE.output, Nat.le_trans hs h.size, fun k hk => ?_⟩
  rw [h.block k (Nat.lt_of_lt_of_le hk hs) (by omega) fun e => by have := ho k e.symm; omega]
  exact hE.block k hk
theorem Fr.blk {b : Nat} {o : Option Nat} {w w' : World} (h : Fr b o w w') {c : Nat} {T : TypeId} {cs : Array Value} (hB : Blk w c T cs) (hc : c ≠ b) (ho : o ≠ some c) : Blk w' c T cs := by
  unfold Blk; rw [h.block c hB.lt hc fun e => ho e.symm]; exact hB
theorem Fr.own {b : Nat} {o : Option Nat} {w w' : World} (h : Fr b o w w') {TI : TypeId} {w0 : World} {v : Value} {l : List Int} (hO : Own TI w0 w v l) (h1 : v.ownBlock ≠ some b) (h2 : v.ownBlock = none ∨ v.ownBlock ≠ o) : Own TI w0 w' v l := by
  obtain ⟨⟨hl, hr⟩, hn⟩ := hO
  refine ⟨⟨hl, ?_⟩, hn⟩
  rcases hr with hr | ⟨g, cap, cur, rfl, hg, hh, rest⟩
  · exact Or.inl hr
  · refine Or.inr ⟨g, cap, cur, rfl, hg, ?_, rest⟩
    simp [Value.ownBlock] at h1 h2
    rw [h.block g (Array.getElem?_eq_some_iff.1 hh).1 h1 h2]; exact hh
theorem run_append1F {P : Program} {T TI : TypeId} (hT : IntSl P T TI) (ty : TypeId) (w0 w : World) (v : Value) (l : List Int) (y : Int) (ad : Addr) (hO : Own TI w0 w v l) (hE : Ext w0 w) (hy : ∀ j u, [Value.int .i64 y][j]? = some u → w.cell? (ad.add j) = some u) (hn : l.length < 17592186044416) :
    ∃ v' w', (Builtin.append_ #[T, T] ty #[v, .slice (some ad) 1 1]).run P w = .ok v' w' ∧ Own TI w0 w' v' (l ++ [y]) ∧ w.grownBy w' v.ownBlock ∧ Nw v.ownBlock w v'.ownBlock := by
  obtain ⟨i, hi, hz, hs1, hby⟩ := hT.info
  have h1 := hO.1
  rcases h1.2 with ⟨rfl, hl⟩ | ⟨g, cap, cur, rfl, hg, hh, hnc, hcm, hcs, htk⟩
  · have hl' : l = [] := List.eq_nil_of_length_eq_zero hl
    subst hl'
    obtain ⟨v', w', hrun, r1, r2, -⟩ := run_append_own (P := P) w w.heap.size T ty TI i (.int .i64 0) 1 8 hT.und hi hz hs1 hby rfl (by omega) (.slice none 0 0) 0 [] (World.ownsRow_nil _ _ _ _) ad 1 1 [.int .i64 y] rfl hy (by simp [Value.oneCell']) (by unfold maxLen; omega) (by omega) (Nat.le_refl _)
    have hO' : Own TI w w' v' [y] := ⟨by simpa using r1, by simp⟩
    exact ⟨v', w', hrun, by simpa using hO'.mono hE, r2, Or.inr fun k hk => (hO'.blk k hk).1⟩
  · by_cases hroom : l.length + 1 ≤ cap
    · obtain ⟨w', hrun, r1, r2⟩ := run_append_fits (P := P) w w0.heap.size T ty TI i 1 hT.und hi hs1 g l.length cap _ h1 ad 1 1 [.int .i64 y] rfl hy (by simp [Value.oneCell']) hroom
      exact ⟨_, w', hrun, ⟨by simpa using r1, by simp; omega⟩, r2, Or.inl rfl⟩
    · obtain ⟨v', w', hrun, r1, r2⟩ := run_append_arg_grows (P := P) (w := w) T ty TI i (.int .i64 0) 1 8 hT.und hi hz hs1 hby rfl (by omega) ⟨g, 0, none⟩ l.length cap (l.map (Value.int .i64)) (by simp) (by
        intro j u hu
        have hj : j < l.length := by have := (List.getElem?_eq_some_iff.1 hu).1; simpa using this
        rw [Addr.add_lit, Nat.zero_add, World.ownsRow.cellAt h1 j (by omega)]
        simpa using hu) ad 1 1 [.int .i64 y] rfl hy (by omega) (by unfold maxLen; omega) (by omega)
      have hO' : Own TI w w' v' (l ++ [y]) := ⟨by simpa using r1, by simp; omega⟩
      exact ⟨v', w', hrun, hO'.mono hE, ⟨r2.os, r2.tape, r2.output, r2.size, fun k hk _ => r2.block k hk (by simp)⟩, Or.inr fun k hk => (hO'.blk k hk).1⟩
section
variable {P : Program} {ops : Array Oper} {rest : List Oper} {o : Oper} {a : Act} {Q : Exit → Act → World → Prop} {T TI : TypeId}
/-- append(s, y), with the row that it writes -/
theorem wp_append1F (hT : IntSl P T TI) (hg : o.guard = none) (s x : Operand) (hop : o.op = Op.call { callee := Callee.builtin Builtin.append, args := #[s, x], argTypes := #[T, T] })
    (w0 W : World) (v : Value) (l : List Int) (y : Int) (hO : Own TI w0 W v l) (hE : Ext w0 W) (hn : l.length < 17592186044416) (hs : a.eval s = v) (hx : a.eval x = .slice (some ⟨W.heap.size, 0, none⟩) 1 1)
    (hK : ∀ v' w', Own TI w0 w' v' (l ++ [y]) → W.grownBy w' v.ownBlock → Nw v.ownBlock W v'.ownBlock → wpList P ops Q rest (a.put o.dst v') w') :
    wpList P ops Q (o :: rest) a (W.alloc (.cells #[.int .i64 y] TI)) := by
  obtain ⟨v', w', hrun, h1, h2, h3⟩ := run_append1F hT o.type w0 (W.alloc (.cells #[.int .i64 y] TI)) v l y ⟨W.heap.size, 0, none⟩ (hO.alloc _) (hE.alloc _) (cell_one_new _ _ _) hn
  refine wpList_plain hg fun K hK' => ?_
  unfold Oper.wp
  simp [execOp, hop, resolve, invoke, builtin, hs, hx, hrun, Result.andThen]
  have e : Ext W (W.alloc (.cells #[.int .i64 y] TI)) := (Ext.refl W).alloc _
  refine hK' _ _ (hK v' w' h1 ⟨h2.os.trans e.os, h2.tape.trans e.tape, h2.output.trans e.output, Nat.le_trans e.size h2.size, fun k hk hne => ?_⟩ ?_)
  · rw [h2.block k (Nat.lt_of_lt_of_le hk e.size) hne]; exact e.block k hk
  · rcases h3 with h3 | h3
    · exact Or.inl h3
    · exact Or.inr fun k hk => Nat.le_trans e.size (h3 k hk)
end
end Go.Zz

/- The search for a first largest set: the program's closures. -/
namespace Go.Zz
open Go.RowKit Go.Proofs
set_option maxHeartbeats 2000000
set_option maxRecDepth 4000

/-- w' is w with new blocks, and writes to the blocks of S alone -/
structure Fw (S : Nat → Prop) (w w' : World) : Prop where
  os : w'.os = w.os
  tape : w'.tape = w.tape
  output : w'.output = w.output
  size : w.heap.size ≤ w'.heap.size
  block : ∀ k, k < w.heap.size → ¬ S k → w'.heap[k]? = w.heap[k]?
theorem Fw.refl (S : Nat → Prop) (w : World) : Fw S w w := ⟨rfl, rfl, rfl, Nat.le_refl _, fun _ _ _ => rfl⟩
theorem Fw.trans {S : Nat → Prop} {w w1 w2 : World} (h : Fw S w w1) (k : Fw S w1 w2) : Fw S w w2 :=
  ⟨k.os.trans h.os, k.tape.trans h.tape, k.output.trans h.output, Nat.le_trans h.size k.size, fun i hi hs => (k.block i (Nat.lt_of_lt_of_le hi h.size) hs).trans (h.block i hi hs)⟩
theorem Ext.fw {w w' : World} (h : Ext w w') (S : Nat → Prop) : Fw S w w' := ⟨h.os, h.tape, h.output, h.size, fun k hk _ => h.block k hk⟩
theorem fw_set {S : Nat → Prop} {b : Nat} (h : S b) (w : World) (i : Nat) (v : Value) : Fw S w (w.setCell ⟨b, i, none⟩ v) :=
  ⟨rfl, rfl, rfl, by simp, fun k _ hk => Below.heap_setCell _ _ _ _ (fun e => hk (by rw [e]; exact h))⟩
theorem Fw.ext {S : Nat → Prop} {w0 w w' : World} (h : Fw S w w') (hE : Ext w0 w) (hS : ∀ k, S k → w0.heap.size ≤ k) : Ext w0 w' := by
  have hs := hE.size
  refine ⟨h.os.trans hE.os, h.tape.trans hE.tape, h.output.trans hE.output, Nat.le_trans hs h.size, fun k hk => ?_⟩
  rw [h.block k (Nat.lt_of_lt_of_le hk hs) fun e => by have := hS k e; omega]
  exact hE.block k hk
theorem Fw.blk {S : Nat → Prop} {w w' : World} (h : Fw S w w') {c : Nat} {T : TypeId} {cs : Array Value} (hB : Blk w c T cs) (hc : ¬ S c) : Blk w' c T cs := by
  unfold Blk; rw [h.block c hB.lt hc]; exact hB
/-- three boxes of ints -/
def S3 (a b c : Nat) (k : Nat) : Prop := k = a ∨ k = b ∨ k = c

end Go.Zz

/- first and LargestClique of the program. -/
namespace Go.Zz
open Go.RowKit Go.Proofs
set_option maxHeartbeats 2000000
set_option maxRecDepth 4000

end Go.Zz

/- Plain facts on the search for a first largest set: as the references go through the elements. No program is named here. -/
namespace Go.Zz
set_option linter.unusedVariables false

/-- the best one after the elements below k -/
def fsK (P : Nat → Bool) (N f b fr k : Nat) : Nat := (elemsTo (kidN P N b fr) k).foldl (fun (best x : Nat) => if cnt best < cnt (fsS P N f (b ||| 2 ^ x) (x + 1)) then fsS P N f (b ||| 2 ^ x) (x + 1) else best) b
theorem fsK_start (P : Nat → Bool) (N f b fr : Nat) : fsK P N f b fr fr = b := by
  unfold fsK; rw [elemsTo_nil0 fun i hi => by rw [kidN_bit]; simp; intro _ h; omega]; rfl
theorem fsK_end {P : Nat → Bool} {N : Nat} (hN : N ≤ 24) (f b fr : Nat) : fsS P N (f + 1) b fr = fsK P N f b fr N := by
  unfold fsK; rw [elemsTo_all hN (kidN_lt P N b fr)]; rfl
theorem fsK_no {P : Nat → Bool} {N f b fr k : Nat} (h : P (b ||| 2 ^ k) = false) : fsK P N f b fr (k + 1) = fsK P N f b fr k := by
  unfold fsK; rw [elemsTo_succ, show (kidN P N b fr).testBit k = false by rw [kidN_bit, h]; simp]; simp
theorem fsK_more {P : Nat → Bool} {N f b fr k : Nat} (h1 : k < N) (h2 : fr ≤ k) (h : P (b ||| 2 ^ k) = true) (hq : cnt (fsK P N f b fr k) < cnt (fsS P N f (b ||| 2 ^ k) (k + 1))) : fsK P N f b fr (k + 1) = fsS P N f (b ||| 2 ^ k) (k + 1) := by
  unfold fsK at hq ⊢
  rw [elemsTo_succ, show (kidN P N b fr).testBit k = true by rw [kidN_bit, h]; simp [h1, h2], if_pos rfl, List.foldl_append]
  simp only [List.foldl_cons, List.foldl_nil]
  rw [if_pos hq]
theorem fsK_less {P : Nat → Bool} {N f b fr k : Nat} (h1 : k < N) (h2 : fr ≤ k) (h : P (b ||| 2 ^ k) = true) (hq : ¬ cnt (fsK P N f b fr k) < cnt (fsS P N f (b ||| 2 ^ k) (k + 1))) : fsK P N f b fr (k + 1) = fsK P N f b fr k := by
  unfold fsK at hq ⊢
  rw [elemsTo_succ, show (kidN P N b fr).testBit k = true by rw [kidN_bit, h]; simp [h1, h2], if_pos rfl, List.foldl_append]
  simp only [List.foldl_cons, List.foldl_nil]
  rw [if_neg hq]
/-- the first element may be left out where it serves never -/
theorem fsS_from1 {P : Nat → Bool} {N f : Nat} (h : P 1 = false) : fsS P N (f + 1) 0 0 = fsS P N (f + 1) 0 1 := by
  have e : kidN P N 0 0 = kidN P N 0 1 := Nat.eq_of_testBit_eq fun i => by
    rw [kidN_bit, kidN_bit]
    by_cases hi : i = 0
    · subst hi; simp [h]
    · simp [show 1 ≤ i by omega]
  unfold fsS; rw [e]
/-- sets without sums -/
def freeP (l : List Int) (b : Nat) : Bool := isSetB l b && decide (sumF l b b &&& b = 0)
end Go.Zz

/- The search for a first largest set: the references. Sets without sums: both. -/
namespace Go.Zz
open Go.RowKit Go.Proofs
set_option maxHeartbeats 2000000
set_option maxRecDepth 4000

theorem fsK_lt (P : Nat → Bool) (N : Nat) (hN : N ≤ 24) (f b fr k : Nat) (hb : b < 2 ^ 24) : fsK P N f b fr k < 2 ^ 24 := by
  unfold fsK
  have : ∀ (L : List Nat) (r : Nat), r < 2 ^ 24 → (∀ x ∈ L, x < 24) → L.foldl (fun (best x : Nat) => if cnt best < cnt (fsS P N f (b ||| 2 ^ x) (x + 1)) then fsS P N f (b ||| 2 ^ x) (x + 1) else best) r < 2 ^ 24 := by
    intro L
    induction L with
    | nil => intro r hr _; exact hr
    | cons x L ih =>
      intro r hr hL
      rw [List.foldl_cons]
      refine ih _ ?_ fun y hy => hL y (by simp [hy])
      split
      · exact fsS_lt P N hN f _ _ (Nat.or_lt_two_pow hb (Nat.pow_lt_pow_right (by omega) (hL x (by simp))))
      · exact hr
  refine this _ b hb fun x hx => ?_
  have h1 := (List.mem_filter.1 hx).2
  have := bit_lt (kidN_lt P N b fr) h1
  omega
theorem l21Free_any (v : Value) (l : List Int) (a : Nat) (w : World) (h : Ints w v l) (Hgr : Hid (isGrp l = true)) (ha : a < 2 ^ 24) :
    Calls Try.prog 103 #[.agg #[v], .int .i64 a] w fun e w' => e = .returned (.bool (decide (sumF l a a &&& a = 0))) ∧ Ext w w' := by
  obtain ⟨wb, hwb⟩ : ∃ wb, wb = w.alloc (.cells #[v] 26) := ⟨_, rfl⟩
  have hE0 := (Ext.refl w).alloc (.cells #[v] 26)
  have hb := box_cell w v 26
  rw [← hwb] at hE0 hb
  have hg : ∀ W, Ext wb W → Ints W v l := fun W hW => h.ext (hE0.trans hW)
  have hE := Ext.refl wb
  have Hsz : Hid (w.heap.size + 1 = wb.heap.size) := Lib.hid (by rw [hwb]; simp [go_sem])
  have Hwb := Lib.hid hwb
  clear hwb h
  have hbx := hb wb hE
  have hs := sumF_bd Hgr.out a a
  have ho : iand ((sumF l a a : Nat) : Int) (a : Int) = ((sumF l a a &&& a : Nat) : Int) := iand_nat (by omega) (by omega)
  have cS := l4Sum_any v l a a wb (hg _ hE) Hgr ha ha
  go_enter Try.func103, Try.ntmps103
  go_wp2_with fail
  rw [← Hwb.out]
  refine cS.mono ?_
  rintro e w1 ⟨rfl, hE1⟩
  go_wp2_with fail
  go_ret
  exact ⟨ret_bool (by rw [Bool.eq_iff_iff, beq_iff_eq, decide_eq_true_iff]; omega), hE0.trans hE1⟩
theorem IsSumFree_any (v : Value) (l : List Int) (a : Int) (w : World) (h : Ints w v l) :
    Calls Try.prog 117 #[.agg #[v], .int .i64 a] w fun e w' => e = .returned (.bool (isSetB l a && decide (sumF l a.toNat a.toNat &&& a.toNat = 0))) ∧ Ext w w' := by
  obtain ⟨wb, hwb⟩ : ∃ wb, wb = w.alloc (.cells #[v] 26) := ⟨_, rfl⟩
  have hE0 := (Ext.refl w).alloc (.cells #[v] 26)
  have hb := box_cell w v 26
  rw [← hwb] at hE0 hb
  have hg : ∀ W, Ext wb W → Ints W v l := fun W hW => h.ext (hE0.trans hW)
  have hE := Ext.refl wb
  have Hsz : Hid (w.heap.size + 1 = wb.heap.size) := Lib.hid (by rw [hwb]; simp [go_sem])
  have Hwb := Lib.hid hwb
  clear hwb h
  have hbx := hb wb hE
  have cI := IsSet_any v l a wb (hg _ hE)
  cases hs : isSetB l a
  · rw [hs] at cI
    go_enter Try.func117, Try.ntmps117
    go_wp2_with fail
    rw [← Hwb.out]
    refine cI.mono ?_
    rintro e w1 ⟨rfl, hE1⟩
    go_wp2_with fail
    go_ret
    exact ⟨rfl, hE0.trans hE1⟩
  · rw [hs] at cI
    obtain ⟨n, rfl, -, hn, hgr⟩ := isSetB_nat hs
    have hs24 := sumF_bd hgr n n
    have ho : iand ((sumF l n n : Nat) : Int) (n : Int) = ((sumF l n n &&& n : Nat) : Int) := iand_nat (by omega) (by omega)
    have cS := fun W (hW : Ext wb W) => sum_any v l n n W (hg _ hW) (Lib.hid hgr) hn hn
    have Hv : Hid ((true && decide (sumF l ((n : Nat) : Int).toNat ((n : Nat) : Int).toNat &&& ((n : Nat) : Int).toNat = 0)) = (((sumF l n n &&& n : Nat) : Int) == 0)) := Lib.hid (by
      rw [show ((n : Nat) : Int).toNat = n by omega, Bool.true_and, Bool.eq_iff_iff, beq_iff_eq, decide_eq_true_iff]; omega)
    clear hs hgr
    go_enter Try.func117, Try.ntmps117
    go_wp2_with fail
    rw [← Hwb.out]
    refine cI.mono ?_
    rintro e w1 ⟨rfl, hE1⟩
    have hb1 := hb w1 hE1
    go_wp2_with fail
    refine (cS _ hE1).mono ?_
    rintro e w2 ⟨rfl, hE2⟩
    go_wp2_with fail
    go_ret
    exact ⟨ret_bool Hv.out.symm, hE0.trans (hE1.trans hE2)⟩
end Go.Zz

/- Largest sets without sums, of Sidon and without progressions: the program. -/
namespace Go.Zz
open Go.RowKit Go.Proofs
set_option maxHeartbeats 2000000
set_option maxRecDepth 4000

/-- sets of Sidon -/
noncomputable def sidP (l : List Int) (b : Nat) : Bool := sidB l b
def lgB (l : List Int) (m : Nat) : Bool := isGrp l && decide (ord l ≤ m)
def lgV (P : Nat → Bool) (l : List Int) (m : Nat) : Nat := if lgB l m then fsS P (ord l) (ord l + 1) 0 0 else 0
theorem lg_no {P : Nat → Bool} {l : List Int} {m : Nat} (h : lgB l m = false) : lgV P l m = 0 := by unfold lgV; rw [h]; rfl
theorem lg_yes {P : Nat → Bool} {l : List Int} {m : Nat} (h : lgB l m = true) : lgV P l m = fsS P (ord l) (ord l + 1) 0 0 := by unfold lgV; rw [h]; rfl
end Go.Zz

/- Triples in progression: the reference. Largest sets of the references. -/
namespace Go.Zz
open Go.RowKit Go.Proofs
set_option maxHeartbeats 2000000
set_option maxRecDepth 4000

theorem sTriplesIn_any (v : Value) (l : List Int) (a : Int) (w : World) (h : Ints w v l) :
    Calls Try.prog 156 #[.agg #[v], .int .i64 a] w fun e w' => ZN (apB l a) e ∧ Ext w w' := by
  obtain ⟨wb, hwb⟩ : ∃ wb, wb = w.alloc (.cells #[v] 26) := ⟨_, rfl⟩
  have hE0 := (Ext.refl w).alloc (.cells #[v] 26)
  have hb := box_cell w v 26
  rw [← hwb] at hE0 hb
  have hg : ∀ W, Ext wb W → Ints W v l := fun W hW => h.ext (hE0.trans hW)
  have hE := Ext.refl wb
  have Hsz : Hid (w.heap.size + 1 = wb.heap.size) := Lib.hid (by rw [hwb]; simp [go_sem])
  have Hwb := Lib.hid hwb
  clear hwb h
  have hbx := hb wb hE
  cases hs : isSetB l a
  · have Hs := Lib.hid (apB_no hs)
    go_enter Try.func156, Try.ntmps156
    go_wp2_with fail
    rw [← Hwb.out]
    go_wp2_with (first | (go_at_call 73; refine (sIsSet_val _ _ _ _ (hg _ hE) (hs)).mono ?_; rintro e w' ⟨rfl, hE'⟩; replace hE := hE.trans hE'; clear hE'))
    go_ret
    exact ⟨by rw [Hs.out]; exact ZN.mk (by decide), hE0.trans hE⟩
  · obtain ⟨n, rfl, h1, h2, hgr⟩ := isSetB_nat hs
    have Hs := Lib.hid (apB_yes hs)
    have Hgr := Lib.hid hgr
    clear hgr
    go_enter Try.func156, Try.ntmps156
    go_wp2_with fail
    rw [← Hwb.out]
    go_wp2_with (first | (go_at_call 73; refine (sIsSet_val _ _ _ _ (hg _ hE) (hs)).mono ?_; rintro e w' ⟨rfl, hE'⟩; replace hE := hE.trans hE'; clear hE') | (go_at_call 137; refine (l3List_any n h2 _).mono ?_; rintro e w1 ⟨v1, rfl, hL, hE1⟩; obtain ⟨aoL, cL, adrL, rfl, hcap, hadrL, hcellL⟩ := hL.ints.natc; have hixL := ints_index (c := cL) elI szI hadrL))
    have hb1 : ∀ W, Ext w1 W → W.cell? ⟨w.heap.size, 0, none⟩ = some v := fun W hW => hb W (hE.trans (hE1.trans hW))
    have hg1 : ∀ W, Ext w1 W → Ints W v l := fun W hW => hg W (hE.trans (hE1.trans hW))
    have eW := hE0.trans (hE.trans hE1)
    have hall : ∀ y ∈ elems n, y < 24 := fun y hy => elems_lt hy
    have hlen := elems_len n
    clear hb hg hbx hE hE1 hL hs
    generalize elems n = L at hcellL hixL hall hlen Hs hcap hadrL ⊢
    have HcL := Lib.hid hcellL
    clear hadrL hcellL
    have hE := Ext.refl w1
    go_loopw [6, 7] (fun nv iv wr => ∃ i z : Nat, i ≤ L.length ∧ iv = .int .i64 i ∧ nv = .int .i64 z ∧ z ≤ 576 * i ∧ Hid (ZT l L (fun a b c => a < b ∧ b < i ∧ c < L.length) z) ∧ Ext w1 wr) (fun _ iv _ => L.length - (intOf iv).toNat)
    case atStart => exact ⟨0, 0, by omega, rfl, rfl, by omega, Lib.hid ⟨fun _ a b c hc => by omega, fun _ => rfl⟩, hE⟩
    case round =>
      clear hE
      obtain ⟨i, z, hi, rfl, rfl, hz, HZ, hE⟩ := hrel
      by_cases hlt : i < L.length
      · have hix24 := hall _ (nthN_mem hlt)
        go_wp2_with fail
        go_loopw [6, 8] (fun nv kv wr => ∃ t z : Nat, t ≤ i ∧ kv = .int .i64 t ∧ nv = .int .i64 z ∧ z ≤ 576 * i + 24 * t ∧ Hid (ZT l L (fun a b c => (a < b ∧ b < i ∧ c < L.length) ∨ (b = i ∧ a < t ∧ c < L.length)) z) ∧ Ext w1 wr) (fun _ kv _ => i - (intOf kv).toNat)
        case atStart => exact ⟨0, z, by omega, rfl, rfl, by omega, Lib.hid (HZ.out.congr fun a b c => by omega), hE⟩
        case round =>
          clear hE hz HZ
          obtain ⟨t, z, ht, rfl, rfl, hz, HZ, hE⟩ := hrel
          by_cases hlt2 : t < i
          · have hkt : t < L.length := by omega
            have hy24 := hall _ (nthN_mem hkt)
            go_wp2_with fail
            go_loopw [6, 9] (fun nv jv wr => ∃ j z : Nat, j ≤ L.length ∧ jv = .int .i64 j ∧ nv = .int .i64 z ∧ z ≤ 576 * i + 24 * t + j ∧ Hid (ZT l L (fun a b c => (a < b ∧ b < i ∧ c < L.length) ∨ (b = i ∧ a < t ∧ c < L.length) ∨ (b = i ∧ a = t ∧ c < j)) z) ∧ Ext w1 wr) (fun _ jv _ => L.length - (intOf jv).toNat)
            case atStart => exact ⟨0, z, by omega, rfl, rfl, by omega, Lib.hid (HZ.out.congr fun a b c => by omega), hE⟩
            case round =>
              clear hE hz HZ
              obtain ⟨j, z, hj, rfl, rfl, hz, HZ, hE⟩ := hrel
              by_cases hlt3 : j < L.length
              · have hz24 := hall _ (nthN_mem hlt3)
                rename World => wj
                have hcj := fun U => HcL.out j _ hlt3 (hE.trans (lat_ext wj U))
                have hci := fun U => HcL.out i _ hlt (hE.trans (lat_ext wj U))
                have hck := fun U => HcL.out t _ hkt (hE.trans (lat_ext wj U))
                have hbj := fun U => hb1 _ (hE.trans (lat_ext wj U))
                obtain ⟨X, hX⟩ : ∃ X, X = nthN L i := ⟨_, rfl⟩
                obtain ⟨Y, hY⟩ : ∃ X, X = nthN L t := ⟨_, rfl⟩
                obtain ⟨Z, hZ⟩ : ∃ X, X = nthN L j := ⟨_, rfl⟩
                have hx24 : X < 24 := by rw [hX]; exact hix24
                have hyy24 : Y < 24 := by rw [hY]; exact hy24
                have hzz24 : Z < 24 := by rw [hZ]; exact hz24
                rw [← hX] at hci
                rw [← hY] at hck
                rw [← hZ] at hcj
                have cA := fun U => l2Add_any v l X Y (Lat wj U) (hg1 _ (hE.trans (lat_ext wj U))) Hgr (by omega) (by omega)
                have cB := fun U => l2Add_any v l Z Z (Lat wj U) (hg1 _ (hE.trans (lat_ext wj U))) Hgr (by omega) (by omega)
                have Hap : Hid (apT l L t i j = (((addF l Z Z : Nat) : Int) == ((addF l X Y : Nat) : Int))) := Lib.hid (by
                  unfold apT; rw [← hX, ← hY, ← hZ, addF_comm l Y X, Bool.eq_iff_iff, beq_iff_eq, beq_iff_eq]; exact eq_comm)
                have hEj := hE
                clear hE hX hY hZ
                have hE := Ext.refl wj
                cases hq : (((addF l Z Z : Nat) : Int) == ((addF l X Y : Nat) : Int))
                · have Hap2 : Hid (apT l L t i j = false) := Lib.hid (by rw [Hap.out]; exact hq)
                  go_wp2_with fail
                  (refine wp_region_lat (wj) (by kernel_rfl) (by kernel_rfl) hE ?_); (repeat (go_big_quiet_step (first | (go_at_call 138; first | with_reducible exact Calls.lat (cA _) | with_reducible exact Calls.lat (cB _))))); (refine wpQuiet_nil ?_); (intro W hE'); (replace hE := lat_of hE'); (clear hE')
                  go_wp2_with fail
                  go_roundw
                  case rel => exact ⟨j + 1, z, by omega, by go_num, rfl, by omega, Lib.hid (HZ.out.miss Hap2.out fun a b c => by omega), hEj.trans hE⟩
                  case measure => (simp [intOf]; omega)
                · have Hap2 : Hid (apT l L t i j = true) := Lib.hid (by rw [Hap.out]; exact hq)
                  go_wp2_with fail
                  (refine wp_region_lat (wj) (by kernel_rfl) (by kernel_rfl) hE ?_); (repeat (go_big_quiet_step (first | (go_at_call 138; first | with_reducible exact Calls.lat (cA _) | with_reducible exact Calls.lat (cB _))))); (refine wpQuiet_nil ?_); (intro W hE'); (replace hE := lat_of hE'); (clear hE')
                  go_wp2_with fail
                  go_roundw
                  case rel => exact ⟨j + 1, z + 1, by omega, by go_num, by go_num, by omega, Lib.hid (ZT.hit (C := fun _ _ _ => True) Hap2.out (by omega)), hEj.trans hE⟩
                  case measure => (simp [intOf]; omega)
              · have Hn : Hid (ZT l L (fun a b c => (a < b ∧ b < i ∧ c < L.length) ∨ (b = i ∧ a < t + 1 ∧ c < L.length)) z) := Lib.hid (HZ.out.congr fun a b c => by omega)
                have hz2 : z ≤ 576 * i + 24 * (t + 1) := by omega
                go_wp2_with fail
                go_roundw
                case rel => exact ⟨t + 1, z, by omega, by go_num, rfl, hz2, Hn, hE⟩
                case measure => (simp [intOf]; omega)
          · have Hn : Hid (ZT l L (fun a b c => a < b ∧ b < i + 1 ∧ c < L.length) z) := Lib.hid (HZ.out.congr fun a b c => by omega)
            have hz2 : z ≤ 576 * (i + 1) := by omega
            go_wp2_with fail
            go_roundw
            case rel => exact ⟨i + 1, z, by omega, by go_num, rfl, hz2, Hn, hE⟩
            case measure => (simp [intOf]; omega)
      · have hil : i = L.length := by omega
        have Hz : Hid (((z : Int) == 0) = apL l L) := Lib.hid (ZT.all (HZ.out.congr fun a b c => by omega))
        clear hil
        go_wp2_with fail
        go_ret
        exact ⟨by rw [Hs.out]; exact ZN.mk Hz.out, eW.trans hE⟩
noncomputable def apP (l : List Int) (b : Nat) : Bool := apB l b
theorem freeP_one {l : List Int} (hg : isGrp l = true) : freeP l 1 = false := by
  unfold freeP
  have : ¬ (sumF l 1 1 &&& 1 = 0) := fun e => by
    have h0 : (sumF l 1 1).testBit 0 = true :=
       testBit_sumF.2 ⟨0, 0, by omega, by decide, by omega, by decide, addF_zero l (isGrp_ords hg) 0 (by have := (ord_bd hg).1; omega)⟩
    rw [Nat.testBit_zero, decide_eq_true_iff] at h0
    have := Nat.and_one_is_mod (sumF l 1 1)
    omega
  rw [decide_eq_false this]; simp
end Go.Zz
