/- SubgroupsOf of the reference. -/
import Derived.Test.YtpjpfpmapdjnaaaGr8
import Derived.Test.YtpjpfpmapdjnaaaGr10
import Derived.Test.YtpjpfpmapdjnaaaGr5
import Derived.Test.YtpjpfpmapdjnaaaGr4
import Derived.Test.YtpjpfpmapdjnaaaGr7
import Derived.Deep.DeepCutAuto
import Derived.Test.YtpjpfpmapdjnaaaGr9
import Derived.Test.YtpjpfpmapdjnaaaGr1
namespace Go.Zz
open Go.RowKit Go.Proofs
set_option maxHeartbeats 8000000
set_option maxRecDepth 20000

theorem sSubgroupsOf_any (v : Value) (l : List Int) (w : World) (h : Ints w v l) :
    Calls Try.prog 11 #[.agg #[v]] w fun e w' => ∃ ao L c, e = .returned (.tuple #[.slice ao (List.length L) c, .bool (isGrp l)]) ∧ Own 3 w w' (.slice ao (List.length L) c) (castL L) ∧ L = (if isGrp l then sgL l else []) ∧ Ext w w' := by
  obtain ⟨wb, hwb⟩ : ∃ wb, wb = w.alloc (.cells #[v] 27) := ⟨_, rfl⟩
  have hE0 := (Ext.refl w).alloc (.cells #[v] 27)
  have hb := box_cell w v 27
  rw [← hwb] at hE0 hb
  have hg : ∀ W, Ext wb W → Ints W v l := fun W hW => h.ext (hE0.trans hW)
  have hE := Ext.refl wb
  have Hsz : Hid (w.heap.size + 1 = wb.heap.size) := Lib.hid (by rw [hwb]; simp [go_sem])
  have Hwb := Lib.hid hwb
  clear hwb h
  have hbx := hb wb hE
  cases hs : isGrp l
  · go_enter Try.func11, Try.ntmps11
    go_wp2_with fail
    rw [← Hwb.out]
    have hEa := (Ext.refl wb).alloc (.cells #[] 3)
    have hOut := own_made (TI := 3) (n := 0) (by omega) hE0 [] rfl
    rw [← Hsz.out] at hOut
    change Own _ _ (wb.alloc (.cells #[] 3)) _ _ at hOut
    refine (sIsGroup_any _ _ _ (hg _ hEa)).mono ?_
    rw [hs]
    rintro e w1 ⟨rfl, hE1⟩
    go_wp2_with fail
    exact bodyPost_ret (v := .tuple #[.slice (some ⟨w.heap.size + 1, 0, none⟩) 0 0, .bool false]) (by simp [results, Try.results11, go_sem]) rfl ⟨_, [], _, rfl, hOut.ext hE1, rfl, hE0.trans (hEa.trans hE1)⟩
  · have hob := ord_bd hs
    have Hgr := Lib.hid hs
    have hcl := cycL_len hs
    have htl := twoL_len hs
    go_enter Try.func11, Try.ntmps11
    go_wp2_with fail
    rw [← Hwb.out]
    have hEa := (Ext.refl wb).alloc (.cells #[] 3)
    have hOut := own_made (TI := 3) (n := 0) (by omega) hE0 [] rfl
    rw [← Hsz.out] at hOut
    change Own _ _ (wb.alloc (.cells #[] 3)) _ _ at hOut
    refine (sIsGroup_any _ _ _ (hg _ hEa)).mono ?_
    rw [hs]
    rintro e w1 ⟨rfl, hE1⟩
    replace hOut := hOut.ext hE1
    replace hE1 := hEa.trans hE1
    have hCy := own_made (TI := 3) (n := 0) (by omega) (hE0.trans hE1) [] rfl
    change Own _ _ (w1.alloc (.cells #[] 3)) _ _ at hCy
    have hE1a := hE1.alloc (.cells #[] 3)
    have hba := hb _ hE1a
    go_wp2_with fail
    refine (l2Order_any _ _ _ (hg _ hE1a) Hgr).mono ?_
    rintro e w2 ⟨rfl, hE2⟩
    have hE02 := hE1a.trans hE2
    replace hCy := hCy.ext hE2
    replace hOut := (hOut.alloc (.cells #[] 3)).ext hE2
    have hEw := hE0.trans hE02
    replace hb := fun W (hW : Ext w2 W) => hb W (hE02.trans hW)
    replace hg := fun W (hW : Ext w2 W) => hg W (hE02.trans hW)
    clear hE1 hE1a hba hE2 hbx hE
    go_wp2_with fail
    go_loopw [5, 7] (fun s5 s7 wr => ∃ (k : Nat) (ao : Option Addr) (c : Nat), k ≤ ord l ∧ s7 = .int .i64 k ∧ s5 = .slice ao (cycT l k).length c ∧ Own 3 w wr (.slice ao (cycT l k).length c) (castL (cycT l k)) ∧ Ext w2 wr) (fun _ s7 _ => ord l - (intOf s7).toNat)
    case atStart => exact ⟨0, _, 0, by omega, rfl, rfl, by simpa [cycT, foldP, castL] using hCy, Ext.refl _⟩
    case round =>
      rename World => wr
      obtain ⟨k, ao, c, hk, rfl, rfl, hI, hEr⟩ := hrel
      by_cases hlt : k < ord l
      · have hltI : (k : Int) < (ord l : Int) := by omega
        have q1 := ishl_one (n := k) (by omega)
        have hp : pw k < 2 ^ 24 := Nat.pow_lt_pow_right (by omega) (show k < 24 by omega)
        have cG := fun W (hW : Ext wr W) => l5Closure_any v l (pw k) W (hg W (hEr.trans hW)) Hgr hp
        have hPl : (cycT l k).length ≤ 24 := by have := foldP_len (fun x => genF l (2 ^ x)) [] k; simp at this; have e : (cycT l k).length ≤ k := this; omega
        obtain ⟨Y, hY⟩ : ∃ Y, Y = genF l (pw k) := ⟨_, rfl⟩
        have Hn : Hid (cycT l (k + 1) = putN (cycT l k) Y) := Lib.hid (by rw [hY]; exact foldP_succ _ _ _)
        obtain ⟨P, hP⟩ : ∃ P, P = cycT l k := ⟨_, rfl⟩
        rw [← hY] at cG
        rw [← hP] at hI hPl Hn
        rw [← hP]
        obtain ⟨pk, hpk⟩ : ∃ x : Int, x = ((pw k : Nat) : Int) := ⟨_, rfl⟩
        rw [← hpk] at q1 cG
        clear hY hP hp hpk
        have hbr := fun W (hW : Ext wr W) => hb W (hEr.trans hW)
        have hEv := hEw.trans hEr
        go_wp2_with fail
        refine wp_region_held_drew (S := (fun W => Ext wr W ∧ W.cell? ⟨w.heap.size, 0, none⟩ = some v)) (by kernel_rfl) (by exact ⟨(by repeat (first | assumption | exact Ext.refl _ | (apply And.left; assumption) | apply Ext.drew | apply Ext.alloc)), hbr _ (by repeat (first | assumption | exact Ext.refl _ | (apply And.left; assumption) | apply Ext.drew | apply Ext.alloc))⟩) (fun hHeld => ?_)
        (refine takeOn (i := 0) (v := ?_) (by kernel_rfl) (by rfl) (by rfl) (by kernel_rfl) (by kernel_rfl) (by intro _ _ _ h; exact h) ?_ (by assumption) ?_); (rotate_left 1); (focus ((intro w hSw); (try dsimp only at hSw); go_simp; (try with_reducible rfl))); (try simp only [Act.put, List.setIfInBounds_toArray, List.set_cons_zero, List.set_cons_succ, List.getElem_toArray, List.getElem_cons_zero, List.getElem_cons_succ])
        (refine takeOn (i := 1) (v := ?_) (by kernel_rfl) (by rfl) (by rfl) (by kernel_rfl) (by kernel_rfl) (by intro _ _ _ h; exact h) ?_ (by assumption) ?_); (rotate_left 1); (focus ((intro w hSw); (try dsimp only at hSw); go_simp; (try with_reducible rfl))); (try simp only [Act.put, List.setIfInBounds_toArray, List.set_cons_zero, List.set_cons_succ, List.getElem_toArray, List.getElem_cons_zero, List.getElem_cons_succ])
        (refine takeOn (i := 2) (v := ?_) (by kernel_rfl) (by rfl) (by rfl) (by kernel_rfl) (by kernel_rfl) (by intro _ _ _ h; exact h) ?_ (by assumption) ?_); (rotate_left 1); (focus ((intro w hSw); (try dsimp only at hSw); go_simp; (try with_reducible rfl))); (try simp only [Act.put, List.setIfInBounds_toArray, List.set_cons_zero, List.set_cons_succ, List.getElem_toArray, List.getElem_cons_zero, List.getElem_cons_succ])
        (refine takeOn (i := 3) (v := ?_) (by kernel_rfl) (by rfl) (by rfl) (by kernel_rfl) (by kernel_rfl) (by intro _ _ _ h; exact h) ?_ (by assumption) ?_); (rotate_left 1); (focus ((intro w hSw); (try dsimp only at hSw); go_simp; (first | done | with_reducible rfl | (rw [if_neg]; (try simp only [ByteArray.size_append, ByteArray.size_mk, List.size_toArray, List.length_cons, List.length_nil]); omega) | trace_state))); (try simp only [Act.put, List.setIfInBounds_toArray, List.set_cons_zero, List.set_cons_succ, List.getElem_toArray, List.getElem_cons_zero, List.getElem_cons_succ])
        refine takeOne (i := 4) (by kernel_rfl) (by rfl) (by rfl) (fun K hK => ?_)
        go_simp; (go_at_call 35; (with_reducible refine Calls.mono (cG _ (by repeat (first | assumption | exact Ext.refl _ | (apply And.left; assumption) | apply Ext.drew | apply Ext.alloc))) ?_); rintro e wx ⟨rfl, hX⟩; have hH := Ext.trans (a := wr) (by repeat (first | assumption | exact Ext.refl _ | (apply And.left; assumption) | apply Ext.drew | apply Ext.alloc)) hX)
        refine hK.out _ _ (by exact ⟨(by repeat (first | assumption | exact Ext.refl _ | (apply And.left; assumption) | apply Ext.drew | apply Ext.alloc)), hbr _ (by repeat (first | assumption | exact Ext.refl _ | (apply And.left; assumption) | apply Ext.drew | apply Ext.alloc))⟩) (fun hHeld => ?_)
        clear hK K
        (try simp only [Act.put, List.setIfInBounds_toArray, List.set_cons_zero, List.set_cons_succ, List.getElem_toArray, List.getElem_cons_zero, List.getElem_cons_succ])
        refine takeOne (i := 5) (by kernel_rfl) (by rfl) (by rfl) (fun K hK => ?_)
        go_simp; (go_at_call 34; (with_reducible refine Calls.mono (l5Put_own _ P Y w _ (hI.ext (by repeat (first | assumption | exact Ext.refl _ | (apply And.left; assumption) | apply Ext.drew | apply Ext.alloc))) (Ext.size (hEv.trans (by repeat (first | assumption | exact Ext.refl _ | (apply And.left; assumption) | apply Ext.drew | apply Ext.alloc)))) (by omega)) ?_); rintro e wy ⟨v4, rfl, hI4, hX4⟩; obtain ⟨a4, c4, rfl⟩ := hI4.nshape; have hH4 := Ext.trans (a := wr) (by repeat (first | assumption | exact Ext.refl _ | (apply And.left; assumption) | apply Ext.drew | apply Ext.alloc)) hX4); rw [← Hn.out] at hI4 ⊢
        refine hK.out _ _ (by exact ⟨(by repeat (first | assumption | exact Ext.refl _ | (apply And.left; assumption) | apply Ext.drew | apply Ext.alloc)), hbr _ (by repeat (first | assumption | exact Ext.refl _ | (apply And.left; assumption) | apply Ext.drew | apply Ext.alloc))⟩) (fun hHeld => ?_)
        clear hK K
        (try simp only [Act.put, List.setIfInBounds_toArray, List.set_cons_zero, List.set_cons_succ, List.getElem_toArray, List.getElem_cons_zero, List.getElem_cons_succ])
        (refine takeOn (i := 6) (v := ?_) (by kernel_rfl) (by rfl) (by rfl) (by kernel_rfl) (by kernel_rfl) (by intro _ _ _ h; exact h) ?_ (by assumption) ?_); (rotate_left 1); (focus ((intro w hSw); (try dsimp only at hSw); go_simp; (try with_reducible rfl))); (try simp only [Act.put, List.setIfInBounds_toArray, List.set_cons_zero, List.set_cons_succ, List.getElem_toArray, List.getElem_cons_zero, List.getElem_cons_succ])
        refine wpAnyH_done (by kernel_rfl) ?_ _
        go_wp2_with fail
        go_roundw
        case rel => exact ⟨k + 1, a4, c4, by omega, by go_num, rfl, hI4, hEr.trans hH4⟩
        case measure => (simp [intOf]; omega)
      · have hkl : k = ord l := by omega
        subst hkl
        have hltI : ¬ ((ord l : Nat) : Int) < (ord l : Int) := by omega
        obtain ⟨aoC, cC, adrC, hvC, hadrC, hcellC⟩ := (show Own 3 w wr (.slice ao (cycL l).length c) (castL (cycL l)) from hI).ints.nats
        simp only [Value.slice.injEq] at hvC
        obtain ⟨rfl, -, rfl⟩ := hvC
        have hClt : ∀ q, nthN (cycL l) q < 2 ^ 24 := fun q => Nat.lt_of_lt_of_le (nthN_lt Hgr.out (fun x hx => cyc_lt Hgr.out hx) q) (pow_ord Hgr.out)
        have Htwo : Hid (twoL l = pairT l (cycL l) (cycL l).length) := Lib.hid rfl
        have Hsg : Hid (sgL l = tripT l (twoL l) (cycL l) (twoL l).length) := Lib.hid rfl
        rw [show cycT l (ord l) = cycL l from rfl]
        obtain ⟨C, hC⟩ : ∃ C, C = cycL l := ⟨_, rfl⟩
        rw [← hC] at hadrC hcellC hClt Htwo Hsg hcl ⊢
        have hix := ints_index (c := c) elI szI hadrC
        have Hcell := Lib.hid hcellC
        replace hb := fun W (hW : Ext wr W) => hb W (hEr.trans hW)
        replace hg := fun W (hW : Ext wr W) => hg W (hEr.trans hW)
        have hE0r := hE0.trans (hE02.trans hEr)
        replace hOut := hOut.ext hEr
        clear hI hadrC hcellC hC hEr hlt hk hltI hs
        go_wp2_with fail
        go_loopw [4, 8] (fun s4 s8 wq => ∃ (i : Nat) (ao : Option Addr) (c : Nat), i ≤ C.length ∧ s8 = .int .i64 i ∧ s4 = .slice ao (pairT l C i).length c ∧ Own 3 w wq (.slice ao (pairT l C i).length c) (castL (pairT l C i)) ∧ Ext wr wq) (fun _ s8 _ => C.length - (intOf s8).toNat)
        case atStart => exact ⟨0, _, 0, by omega, rfl, rfl, by simpa [pairT, castL] using hOut, Ext.refl _⟩
        case round =>
          rename World => wq
          obtain ⟨i, ao, c, hi, rfl, rfl, hI, hEq⟩ := hrel
          by_cases hlt : i < C.length
          · have hltI : (i : Int) < (C.length : Int) := by omega
            have hpl := pairT_len l C i
            have hpm : i * i ≤ 576 := Nat.mul_le_mul (show i ≤ 24 by omega) (show i ≤ 24 by omega)
            go_wp2_with fail
            go_loopw [4, 9] (fun s4 s9 wp => ∃ (j : Nat) (ao : Option Addr) (c : Nat), j ≤ i + 1 ∧ s9 = .int .i64 j ∧ s4 = .slice ao (foldP (fun j => sumF l (nthN C i) (nthN C j)) (pairT l C i) j).length c ∧ Own 3 w wp (.slice ao (foldP (fun j => sumF l (nthN C i) (nthN C j)) (pairT l C i) j).length c) (castL (foldP (fun j => sumF l (nthN C i) (nthN C j)) (pairT l C i) j)) ∧ Ext wq wp) (fun _ s9 _ => i + 1 - (intOf s9).toNat)
            case atStart => exact ⟨0, ao, c, by omega, rfl, rfl, hI, Ext.refl _⟩
            case round =>
              rename World => wp
              obtain ⟨j, ao, c, hj, rfl, rfl, hI, hEp⟩ := hrel
              by_cases hjt : j < i + 1
              · have hjI : (j : Int) ≤ (i : Int) := by omega
                have hjC : j < C.length := by omega
                have hck := fun W (hW : Ext wp W) => Hcell.out i W hlt (hEq.trans (hEp.trans hW))
                have hcj := fun W (hW : Ext wp W) => Hcell.out j W hjC (hEq.trans (hEp.trans hW))
                have hxi := hix i
                have hxj := hix j
                have cS := fun W (hW : Ext wp W) => l4Sum_any v l (nthN C i) (nthN C j) W (hg W (hEq.trans (hEp.trans hW))) Hgr (hClt i) (hClt j)
                have hPl := foldP_len (fun j => sumF l (nthN C i) (nthN C j)) (pairT l C i) j
                have Hn : Hid (foldP (fun j => sumF l (nthN C i) (nthN C j)) (pairT l C i) (j + 1) = putN (foldP (fun j => sumF l (nthN C i) (nthN C j)) (pairT l C i) j) (sumF l (nthN C i) (nthN C j))) := Lib.hid (foldP_succ _ _ _)
                have hjl : (j : Int) < (C.length : Int) := by omega
                obtain ⟨Y, hY⟩ : ∃ Y, Y = sumF l (nthN C i) (nthN C j) := ⟨_, rfl⟩
                obtain ⟨P, hP⟩ : ∃ P, P = foldP (fun j => sumF l (nthN C i) (nthN C j)) (pairT l C i) j := ⟨_, rfl⟩
                rw [← hP, ← hY] at Hn
                rw [← hP] at hI hPl ⊢
                rw [← hY] at cS
                obtain ⟨X1, hX1⟩ : ∃ X, X = nthN C i := ⟨_, rfl⟩
                obtain ⟨X2, hX2⟩ : ∃ X, X = nthN C j := ⟨_, rfl⟩
                rw [← hX1] at hck cS
                rw [← hX2] at hcj cS
                clear hY hP hX1 hX2
                have hbr := fun W (hW : Ext wp W) => hb W (hEq.trans (hEp.trans hW))
                have hEv := hE0r.trans (hEq.trans hEp)
                go_wp2_with fail
                refine wp_region_held_drew (S := (fun W => Ext wp W ∧ W.cell? ⟨w.heap.size, 0, none⟩ = some v ∧ W.cell? (adrC i) = some (.int .i64 X1) ∧ W.cell? (adrC j) = some (.int .i64 X2))) (by kernel_rfl) (by exact ⟨(by repeat (first | assumption | exact Ext.refl _ | (apply And.left; assumption) | apply Ext.drew | apply Ext.alloc)), hbr _ (by repeat (first | assumption | exact Ext.refl _ | (apply And.left; assumption) | apply Ext.drew | apply Ext.alloc)), hck _ (by repeat (first | assumption | exact Ext.refl _ | (apply And.left; assumption) | apply Ext.drew | apply Ext.alloc)), hcj _ (by repeat (first | assumption | exact Ext.refl _ | (apply And.left; assumption) | apply Ext.drew | apply Ext.alloc))⟩) (fun hHeld => ?_)
                (refine takeOn (i := 0) (v := ?_) (by kernel_rfl) (by rfl) (by rfl) (by kernel_rfl) (by kernel_rfl) (by intro _ _ _ h; exact h) ?_ (by assumption) ?_); (rotate_left 1); (focus ((intro w hSw); (try dsimp only at hSw); go_simp; (try with_reducible rfl))); (try simp only [Act.put, List.setIfInBounds_toArray, List.set_cons_zero, List.set_cons_succ, List.getElem_toArray, List.getElem_cons_zero, List.getElem_cons_succ])
                (refine takeOn (i := 1) (v := ?_) (by kernel_rfl) (by rfl) (by rfl) (by kernel_rfl) (by kernel_rfl) (by intro _ _ _ h; exact h) ?_ (by assumption) ?_); (rotate_left 1); (focus ((intro w hSw); (try dsimp only at hSw); go_simp; (try with_reducible rfl))); (try simp only [Act.put, List.setIfInBounds_toArray, List.set_cons_zero, List.set_cons_succ, List.getElem_toArray, List.getElem_cons_zero, List.getElem_cons_succ])
                (refine takeOn (i := 2) (v := ?_) (by kernel_rfl) (by rfl) (by rfl) (by kernel_rfl) (by kernel_rfl) (by intro _ _ _ h; exact h) ?_ (by assumption) ?_); (rotate_left 1); (focus ((intro w hSw); (try dsimp only at hSw); go_simp; (try with_reducible rfl))); (try simp only [Act.put, List.setIfInBounds_toArray, List.set_cons_zero, List.set_cons_succ, List.getElem_toArray, List.getElem_cons_zero, List.getElem_cons_succ])
                (refine takeOn (i := 3) (v := ?_) (by kernel_rfl) (by rfl) (by rfl) (by kernel_rfl) (by kernel_rfl) (by intro _ _ _ h; exact h) ?_ (by assumption) ?_); (rotate_left 1); (focus ((intro w hSw); (try dsimp only at hSw); go_simp; (try with_reducible rfl))); (try simp only [Act.put, List.setIfInBounds_toArray, List.set_cons_zero, List.set_cons_succ, List.getElem_toArray, List.getElem_cons_zero, List.getElem_cons_succ])
                (refine takeOn (i := 4) (v := ?_) (by kernel_rfl) (by rfl) (by rfl) (by kernel_rfl) (by kernel_rfl) (by intro _ _ _ h; exact h) ?_ (by assumption) ?_); (rotate_left 1); (focus ((intro w hSw); (try dsimp only at hSw); go_simp; (try with_reducible rfl))); (try simp only [Act.put, List.setIfInBounds_toArray, List.set_cons_zero, List.set_cons_succ, List.getElem_toArray, List.getElem_cons_zero, List.getElem_cons_succ])
                (refine takeOn (i := 5) (v := ?_) (by kernel_rfl) (by rfl) (by rfl) (by kernel_rfl) (by kernel_rfl) (by intro _ _ _ h; exact h) ?_ (by assumption) ?_); (rotate_left 1); (focus ((intro w hSw); (try dsimp only at hSw); go_simp; (try with_reducible rfl))); (try simp only [Act.put, List.setIfInBounds_toArray, List.set_cons_zero, List.set_cons_succ, List.getElem_toArray, List.getElem_cons_zero, List.getElem_cons_succ])
                (refine takeOn (i := 6) (v := ?_) (by kernel_rfl) (by rfl) (by rfl) (by kernel_rfl) (by kernel_rfl) (by intro _ _ _ h; exact h) ?_ (by assumption) ?_); (rotate_left 1); (focus ((intro w hSw); (try dsimp only at hSw); go_simp; (try with_reducible rfl))); (try simp only [Act.put, List.setIfInBounds_toArray, List.set_cons_zero, List.set_cons_succ, List.getElem_toArray, List.getElem_cons_zero, List.getElem_cons_succ])
                (refine takeOn (i := 7) (v := ?_) (by kernel_rfl) (by rfl) (by rfl) (by kernel_rfl) (by kernel_rfl) (by intro _ _ _ h; exact h) ?_ (by assumption) ?_); (rotate_left 1); (focus ((intro w hSw); (try dsimp only at hSw); go_simp; (try with_reducible rfl))); (try simp only [Act.put, List.setIfInBounds_toArray, List.set_cons_zero, List.set_cons_succ, List.getElem_toArray, List.getElem_cons_zero, List.getElem_cons_succ])
                (refine takeOn (i := 8) (v := ?_) (by kernel_rfl) (by rfl) (by rfl) (by kernel_rfl) (by kernel_rfl) (by intro _ _ _ h; exact h) ?_ (by assumption) ?_); (rotate_left 1); (focus ((intro w hSw); (try dsimp only at hSw); go_simp; (try with_reducible rfl))); (try simp only [Act.put, List.setIfInBounds_toArray, List.set_cons_zero, List.set_cons_succ, List.getElem_toArray, List.getElem_cons_zero, List.getElem_cons_succ])
                (refine takeOn (i := 9) (v := ?_) (by kernel_rfl) (by rfl) (by rfl) (by kernel_rfl) (by kernel_rfl) (by intro _ _ _ h; exact h) ?_ (by assumption) ?_); (rotate_left 1); (focus ((intro w hSw); (try dsimp only at hSw); go_simp; (try with_reducible rfl))); (try simp only [Act.put, List.setIfInBounds_toArray, List.set_cons_zero, List.set_cons_succ, List.getElem_toArray, List.getElem_cons_zero, List.getElem_cons_succ])
                refine takeOne (i := 10) (by kernel_rfl) (by rfl) (by rfl) (fun K hK => ?_)
                go_simp; (go_at_call 36; (with_reducible refine Calls.mono (cS _ (by repeat (first | assumption | exact Ext.refl _ | (apply And.left; assumption) | apply Ext.drew | apply Ext.alloc))) ?_); rintro e wx ⟨rfl, hX⟩; have hH := Ext.trans (a := wp) (by repeat (first | assumption | exact Ext.refl _ | (apply And.left; assumption) | apply Ext.drew | apply Ext.alloc)) hX)
                refine hK.out _ _ (by exact ⟨(by repeat (first | assumption | exact Ext.refl _ | (apply And.left; assumption) | apply Ext.drew | apply Ext.alloc)), hbr _ (by repeat (first | assumption | exact Ext.refl _ | (apply And.left; assumption) | apply Ext.drew | apply Ext.alloc)), hck _ (by repeat (first | assumption | exact Ext.refl _ | (apply And.left; assumption) | apply Ext.drew | apply Ext.alloc)), hcj _ (by repeat (first | assumption | exact Ext.refl _ | (apply And.left; assumption) | apply Ext.drew | apply Ext.alloc))⟩) (fun hHeld => ?_)
                clear hK K
                (try simp only [Act.put, List.setIfInBounds_toArray, List.set_cons_zero, List.set_cons_succ, List.getElem_toArray, List.getElem_cons_zero, List.getElem_cons_succ])
                refine takeOne (i := 11) (by kernel_rfl) (by rfl) (by rfl) (fun K hK => ?_)
                go_simp; (go_at_call 34; (with_reducible refine Calls.mono (l5Put_own _ P Y w _ (hI.ext (by repeat (first | assumption | exact Ext.refl _ | (apply And.left; assumption) | apply Ext.drew | apply Ext.alloc))) (Ext.size (hEv.trans (by repeat (first | assumption | exact Ext.refl _ | (apply And.left; assumption) | apply Ext.drew | apply Ext.alloc)))) (by omega)) ?_); rintro e wy ⟨v4, rfl, hI4, hX4⟩; obtain ⟨a4, c4, rfl⟩ := hI4.nshape; have hH4 := Ext.trans (a := wp) (by repeat (first | assumption | exact Ext.refl _ | (apply And.left; assumption) | apply Ext.drew | apply Ext.alloc)) hX4); rw [← Hn.out] at hI4 ⊢
                refine hK.out _ _ (by exact ⟨(by repeat (first | assumption | exact Ext.refl _ | (apply And.left; assumption) | apply Ext.drew | apply Ext.alloc)), hbr _ (by repeat (first | assumption | exact Ext.refl _ | (apply And.left; assumption) | apply Ext.drew | apply Ext.alloc)), hck _ (by repeat (first | assumption | exact Ext.refl _ | (apply And.left; assumption) | apply Ext.drew | apply Ext.alloc)), hcj _ (by repeat (first | assumption | exact Ext.refl _ | (apply And.left; assumption) | apply Ext.drew | apply Ext.alloc))⟩) (fun hHeld => ?_)
                clear hK K
                (try simp only [Act.put, List.setIfInBounds_toArray, List.set_cons_zero, List.set_cons_succ, List.getElem_toArray, List.getElem_cons_zero, List.getElem_cons_succ])
                (refine takeOn (i := 12) (v := ?_) (by kernel_rfl) (by rfl) (by rfl) (by kernel_rfl) (by kernel_rfl) (by intro _ _ _ h; exact h) ?_ (by assumption) ?_); (rotate_left 1); (focus ((intro w hSw); (try dsimp only at hSw); go_simp; (try with_reducible rfl))); (try simp only [Act.put, List.setIfInBounds_toArray, List.set_cons_zero, List.set_cons_succ, List.getElem_toArray, List.getElem_cons_zero, List.getElem_cons_succ])
                refine wpAnyH_done (by kernel_rfl) ?_ _
                go_wp2_with fail
                go_roundw
                case rel => exact ⟨j + 1, a4, c4, by omega, by go_num, rfl, hI4, hEp.trans hH4⟩
                case measure => (simp [intOf]; omega)
              · have hji : j = i + 1 := by omega
                subst hji
                have hjI : ¬ ((i + 1 : Nat) : Int) ≤ (i : Int) := by omega
                go_wp2_with fail
                go_roundw
                case rel => exact ⟨i + 1, ao, c, by omega, by go_num, rfl, hI, hEq.trans hEp⟩
                case measure => (simp [intOf]; omega)
          · have hil : i = C.length := by omega
            subst hil
            have hltI : ¬ ((C.length : Nat) : Int) < (C.length : Int) := by omega
            rw [← Htwo.out] at hI ⊢
            obtain ⟨aoT, cT, adrT, hvT, hadrT, hcellT⟩ := hI.ints.nats
            simp only [Value.slice.injEq] at hvT
            obtain ⟨rfl, -, rfl⟩ := hvT
            have hTlt : ∀ q, nthN (twoL l) q < 2 ^ 24 := fun q => Nat.lt_of_lt_of_le (nthN_lt Hgr.out (twoL_lt Hgr.out) q) (pow_ord Hgr.out)
            obtain ⟨T, hT⟩ : ∃ T, T = twoL l := ⟨_, rfl⟩
            rw [← hT] at hI hadrT hcellT hTlt Hsg htl ⊢
            have hixT := ints_index (c := c) elI szI hadrT
            have HcT := Lib.hid hcellT
            replace Hcell : Hid (∀ i W, i < C.length → Ext wq W → W.cell? (adrC i) = some (.int .i64 (nthN C i : Int))) := Lib.hid (fun i W hi hW => Hcell.out i W hi (hEq.trans hW))
            replace hb := fun W (hW : Ext wq W) => hb W (hEq.trans hW)
            replace hg := fun W (hW : Ext wq W) => hg W (hEq.trans hW)
            have hE0q := hE0r.trans hEq
            clear hadrT hcellT hT Htwo hE0r
            go_wp2_with fail
            go_loopw [4, 11] (fun s4 s8 wp => ∃ (i : Nat) (ao : Option Addr) (c : Nat), i ≤ T.length ∧ s8 = .int .i64 i ∧ s4 = .slice ao (tripT l T C i).length c ∧ Own 3 w wp (.slice ao (tripT l T C i).length c) (castL (tripT l T C i)) ∧ Ext wq wp) (fun _ s8 _ => T.length - (intOf s8).toNat)
            case atStart => exact ⟨0, _, _, by omega, rfl, rfl, hI, Ext.refl _⟩
            case round =>
              rename World => wp
              obtain ⟨i, ao, c, hi, rfl, rfl, hI, hEp⟩ := hrel
              by_cases hlt : i < T.length
              · have hltI : (i : Int) < (T.length : Int) := by omega
                have hpl := tripT_len l T C i
                have hpm : i * C.length ≤ 13824 := Nat.mul_le_mul (show i ≤ 576 by omega) hcl
                go_wp2_with fail
                go_loopw [4, 12] (fun s4 s9 wz => ∃ (j : Nat) (ao : Option Addr) (c : Nat), j ≤ C.length ∧ s9 = .int .i64 j ∧ s4 = .slice ao (foldP (fun j => sumF l (nthN T i) (nthN C j)) (tripT l T C i) j).length c ∧ Own 3 w wz (.slice ao (foldP (fun j => sumF l (nthN T i) (nthN C j)) (tripT l T C i) j).length c) (castL (foldP (fun j => sumF l (nthN T i) (nthN C j)) (tripT l T C i) j)) ∧ Ext wp wz) (fun _ s9 _ => C.length - (intOf s9).toNat)
                case atStart => exact ⟨0, ao, c, by omega, rfl, rfl, hI, Ext.refl _⟩
                case round =>
                  rename World => wz
                  obtain ⟨j, ao, c, hj, rfl, rfl, hI, hEz⟩ := hrel
                  by_cases hjt : j < C.length
                  · have hjI : (j : Int) < (C.length : Int) := by omega
                    have hck := fun W (hW : Ext wz W) => HcT.out i W hlt (hEp.trans (hEz.trans hW))
                    have hcj := fun W (hW : Ext wz W) => Hcell.out j W hjt (hEp.trans (hEz.trans hW))
                    have hxi := hixT i
                    have hxj := hix j
                    have cS := fun W (hW : Ext wz W) => l4Sum_any v l (nthN T i) (nthN C j) W (hg W (hEp.trans (hEz.trans hW))) Hgr (hTlt i) (hClt j)
                    have hPl := foldP_len (fun j => sumF l (nthN T i) (nthN C j)) (tripT l T C i) j
                    have Hn : Hid (foldP (fun j => sumF l (nthN T i) (nthN C j)) (tripT l T C i) (j + 1) = putN (foldP (fun j => sumF l (nthN T i) (nthN C j)) (tripT l T C i) j) (sumF l (nthN T i) (nthN C j))) := Lib.hid (foldP_succ _ _ _)
                    obtain ⟨Y, hY⟩ : ∃ Y, Y = sumF l (nthN T i) (nthN C j) := ⟨_, rfl⟩
                    obtain ⟨P, hP⟩ : ∃ P, P = foldP (fun j => sumF l (nthN T i) (nthN C j)) (tripT l T C i) j := ⟨_, rfl⟩
                    rw [← hP, ← hY] at Hn
                    rw [← hP] at hI hPl ⊢
                    rw [← hY] at cS
                    obtain ⟨X1, hX1⟩ : ∃ X, X = nthN T i := ⟨_, rfl⟩
                    obtain ⟨X2, hX2⟩ : ∃ X, X = nthN C j := ⟨_, rfl⟩
                    rw [← hX1] at hck cS
                    rw [← hX2] at hcj cS
                    clear hY hP hX1 hX2
                    have hbr := fun W (hW : Ext wz W) => hb W (hEp.trans (hEz.trans hW))
                    have hEv := hE0q.trans (hEp.trans hEz)
                    go_wp2_with fail
                    refine wp_region_held_drew (S := (fun W => Ext wz W ∧ W.cell? ⟨w.heap.size, 0, none⟩ = some v ∧ W.cell? (adrT i) = some (.int .i64 X1) ∧ W.cell? (adrC j) = some (.int .i64 X2))) (by kernel_rfl) (by exact ⟨(by repeat (first | assumption | exact Ext.refl _ | (apply And.left; assumption) | apply Ext.drew | apply Ext.alloc)), hbr _ (by repeat (first | assumption | exact Ext.refl _ | (apply And.left; assumption) | apply Ext.drew | apply Ext.alloc)), hck _ (by repeat (first | assumption | exact Ext.refl _ | (apply And.left; assumption) | apply Ext.drew | apply Ext.alloc)), hcj _ (by repeat (first | assumption | exact Ext.refl _ | (apply And.left; assumption) | apply Ext.drew | apply Ext.alloc))⟩) (fun hHeld => ?_)
                    (refine takeOn (i := 0) (v := ?_) (by kernel_rfl) (by rfl) (by rfl) (by kernel_rfl) (by kernel_rfl) (by intro _ _ _ h; exact h) ?_ (by assumption) ?_); (rotate_left 1); (focus ((intro w hSw); (try dsimp only at hSw); go_simp; (try with_reducible rfl))); (try simp only [Act.put, List.setIfInBounds_toArray, List.set_cons_zero, List.set_cons_succ, List.getElem_toArray, List.getElem_cons_zero, List.getElem_cons_succ])
                    (refine takeOn (i := 1) (v := ?_) (by kernel_rfl) (by rfl) (by rfl) (by kernel_rfl) (by kernel_rfl) (by intro _ _ _ h; exact h) ?_ (by assumption) ?_); (rotate_left 1); (focus ((intro w hSw); (try dsimp only at hSw); go_simp; (try with_reducible rfl))); (try simp only [Act.put, List.setIfInBounds_toArray, List.set_cons_zero, List.set_cons_succ, List.getElem_toArray, List.getElem_cons_zero, List.getElem_cons_succ])
                    (refine takeOn (i := 2) (v := ?_) (by kernel_rfl) (by rfl) (by rfl) (by kernel_rfl) (by kernel_rfl) (by intro _ _ _ h; exact h) ?_ (by assumption) ?_); (rotate_left 1); (focus ((intro w hSw); (try dsimp only at hSw); go_simp; (try with_reducible rfl))); (try simp only [Act.put, List.setIfInBounds_toArray, List.set_cons_zero, List.set_cons_succ, List.getElem_toArray, List.getElem_cons_zero, List.getElem_cons_succ])
                    (refine takeOn (i := 3) (v := ?_) (by kernel_rfl) (by rfl) (by rfl) (by kernel_rfl) (by kernel_rfl) (by intro _ _ _ h; exact h) ?_ (by assumption) ?_); (rotate_left 1); (focus ((intro w hSw); (try dsimp only at hSw); go_simp; (try with_reducible rfl))); (try simp only [Act.put, List.setIfInBounds_toArray, List.set_cons_zero, List.set_cons_succ, List.getElem_toArray, List.getElem_cons_zero, List.getElem_cons_succ])
                    (refine takeOn (i := 4) (v := ?_) (by kernel_rfl) (by rfl) (by rfl) (by kernel_rfl) (by kernel_rfl) (by intro _ _ _ h; exact h) ?_ (by assumption) ?_); (rotate_left 1); (focus ((intro w hSw); (try dsimp only at hSw); go_simp; (try with_reducible rfl))); (try simp only [Act.put, List.setIfInBounds_toArray, List.set_cons_zero, List.set_cons_succ, List.getElem_toArray, List.getElem_cons_zero, List.getElem_cons_succ])
                    (refine takeOn (i := 5) (v := ?_) (by kernel_rfl) (by rfl) (by rfl) (by kernel_rfl) (by kernel_rfl) (by intro _ _ _ h; exact h) ?_ (by assumption) ?_); (rotate_left 1); (focus ((intro w hSw); (try dsimp only at hSw); go_simp; (try with_reducible rfl))); (try simp only [Act.put, List.setIfInBounds_toArray, List.set_cons_zero, List.set_cons_succ, List.getElem_toArray, List.getElem_cons_zero, List.getElem_cons_succ])
                    (refine takeOn (i := 6) (v := ?_) (by kernel_rfl) (by rfl) (by rfl) (by kernel_rfl) (by kernel_rfl) (by intro _ _ _ h; exact h) ?_ (by assumption) ?_); (rotate_left 1); (focus ((intro w hSw); (try dsimp only at hSw); go_simp; (try with_reducible rfl))); (try simp only [Act.put, List.setIfInBounds_toArray, List.set_cons_zero, List.set_cons_succ, List.getElem_toArray, List.getElem_cons_zero, List.getElem_cons_succ])
                    (refine takeOn (i := 7) (v := ?_) (by kernel_rfl) (by rfl) (by rfl) (by kernel_rfl) (by kernel_rfl) (by intro _ _ _ h; exact h) ?_ (by assumption) ?_); (rotate_left 1); (focus ((intro w hSw); (try dsimp only at hSw); go_simp; (try with_reducible rfl))); (try simp only [Act.put, List.setIfInBounds_toArray, List.set_cons_zero, List.set_cons_succ, List.getElem_toArray, List.getElem_cons_zero, List.getElem_cons_succ])
                    (refine takeOn (i := 8) (v := ?_) (by kernel_rfl) (by rfl) (by rfl) (by kernel_rfl) (by kernel_rfl) (by intro _ _ _ h; exact h) ?_ (by assumption) ?_); (rotate_left 1); (focus ((intro w hSw); (try dsimp only at hSw); go_simp; (try with_reducible rfl))); (try simp only [Act.put, List.setIfInBounds_toArray, List.set_cons_zero, List.set_cons_succ, List.getElem_toArray, List.getElem_cons_zero, List.getElem_cons_succ])
                    (refine takeOn (i := 9) (v := ?_) (by kernel_rfl) (by rfl) (by rfl) (by kernel_rfl) (by kernel_rfl) (by intro _ _ _ h; exact h) ?_ (by assumption) ?_); (rotate_left 1); (focus ((intro w hSw); (try dsimp only at hSw); go_simp; (try with_reducible rfl))); (try simp only [Act.put, List.setIfInBounds_toArray, List.set_cons_zero, List.set_cons_succ, List.getElem_toArray, List.getElem_cons_zero, List.getElem_cons_succ])
                    refine takeOne (i := 10) (by kernel_rfl) (by rfl) (by rfl) (fun K hK => ?_)
                    go_simp; (go_at_call 36; (with_reducible refine Calls.mono (cS _ (by repeat (first | assumption | exact Ext.refl _ | (apply And.left; assumption) | apply Ext.drew | apply Ext.alloc))) ?_); rintro e wx ⟨rfl, hX⟩; have hH := Ext.trans (a := wz) (by repeat (first | assumption | exact Ext.refl _ | (apply And.left; assumption) | apply Ext.drew | apply Ext.alloc)) hX)
                    refine hK.out _ _ (by exact ⟨(by repeat (first | assumption | exact Ext.refl _ | (apply And.left; assumption) | apply Ext.drew | apply Ext.alloc)), hbr _ (by repeat (first | assumption | exact Ext.refl _ | (apply And.left; assumption) | apply Ext.drew | apply Ext.alloc)), hck _ (by repeat (first | assumption | exact Ext.refl _ | (apply And.left; assumption) | apply Ext.drew | apply Ext.alloc)), hcj _ (by repeat (first | assumption | exact Ext.refl _ | (apply And.left; assumption) | apply Ext.drew | apply Ext.alloc))⟩) (fun hHeld => ?_)
                    clear hK K
                    (try simp only [Act.put, List.setIfInBounds_toArray, List.set_cons_zero, List.set_cons_succ, List.getElem_toArray, List.getElem_cons_zero, List.getElem_cons_succ])
                    refine takeOne (i := 11) (by kernel_rfl) (by rfl) (by rfl) (fun K hK => ?_)
                    go_simp; (go_at_call 34; (with_reducible refine Calls.mono (l5Put_own _ P Y w _ (hI.ext (by repeat (first | assumption | exact Ext.refl _ | (apply And.left; assumption) | apply Ext.drew | apply Ext.alloc))) (Ext.size (hEv.trans (by repeat (first | assumption | exact Ext.refl _ | (apply And.left; assumption) | apply Ext.drew | apply Ext.alloc)))) (by omega)) ?_); rintro e wy ⟨v4, rfl, hI4, hX4⟩; obtain ⟨a4, c4, rfl⟩ := hI4.nshape; have hH4 := Ext.trans (a := wz) (by repeat (first | assumption | exact Ext.refl _ | (apply And.left; assumption) | apply Ext.drew | apply Ext.alloc)) hX4); rw [← Hn.out] at hI4 ⊢
                    refine hK.out _ _ (by exact ⟨(by repeat (first | assumption | exact Ext.refl _ | (apply And.left; assumption) | apply Ext.drew | apply Ext.alloc)), hbr _ (by repeat (first | assumption | exact Ext.refl _ | (apply And.left; assumption) | apply Ext.drew | apply Ext.alloc)), hck _ (by repeat (first | assumption | exact Ext.refl _ | (apply And.left; assumption) | apply Ext.drew | apply Ext.alloc)), hcj _ (by repeat (first | assumption | exact Ext.refl _ | (apply And.left; assumption) | apply Ext.drew | apply Ext.alloc))⟩) (fun hHeld => ?_)
                    clear hK K
                    (try simp only [Act.put, List.setIfInBounds_toArray, List.set_cons_zero, List.set_cons_succ, List.getElem_toArray, List.getElem_cons_zero, List.getElem_cons_succ])
                    (refine takeOn (i := 12) (v := ?_) (by kernel_rfl) (by rfl) (by rfl) (by kernel_rfl) (by kernel_rfl) (by intro _ _ _ h; exact h) ?_ (by assumption) ?_); (rotate_left 1); (focus ((intro w hSw); (try dsimp only at hSw); go_simp; (try with_reducible rfl))); (try simp only [Act.put, List.setIfInBounds_toArray, List.set_cons_zero, List.set_cons_succ, List.getElem_toArray, List.getElem_cons_zero, List.getElem_cons_succ])
                    refine wpAnyH_done (by kernel_rfl) ?_ _
                    go_wp2_with fail
                    go_roundw
                    case rel => exact ⟨j + 1, a4, c4, by omega, by go_num, rfl, hI4, hEz.trans hH4⟩
                    case measure => (simp [intOf]; omega)
                  · have hji : j = C.length := by omega
                    subst hji
                    have hjI : ¬ ((C.length : Nat) : Int) < (C.length : Int) := by omega
                    go_wp2_with fail
                    go_roundw
                    case rel => exact ⟨i + 1, ao, c, by omega, by go_num, rfl, hI, hEp.trans hEz⟩
                    case measure => (simp [intOf]; omega)
              · have hil : i = T.length := by omega
                subst hil
                have hltI : ¬ ((T.length : Nat) : Int) < (T.length : Int) := by omega
                go_wp2_with fail
                rw [← Hsg.out] at hI ⊢
                exact bodyPost_ret (v := .tuple #[.slice ao (sgL l).length c, .bool true]) (by simp [results, Try.results11, go_sem]) rfl ⟨_, sgL l, _, rfl, hI, rfl, hE0q.trans hEp⟩
end Go.Zz

/- Sets out of lists, images, maps that keep sums: the program. -/
namespace Go.Zz
open Go.RowKit Go.Proofs
set_option maxHeartbeats 1000000
set_option maxRecDepth 4000

theorem SetOf_any (v : Value) (l : List Int) (vX : Value) (X : List Int) (w : World) (h : Ints w v l) (hX : Ints w vX X) :
    Calls Try.prog 82 #[.agg #[v], vX] w fun e w' => e = .returned (.tuple #[.int .i64 (soV l X), .bool (soB l X)]) ∧ Ext w w' := by
  obtain ⟨wb, hwb⟩ : ∃ wb, wb = w.alloc (.cells #[v] 27) := ⟨_, rfl⟩
  have hE0 := (Ext.refl w).alloc (.cells #[v] 27)
  have hb := box_cell w v 27
  rw [← hwb] at hE0 hb
  have hg : ∀ W, Ext wb W → Ints W v l := fun W hW => h.ext (hE0.trans hW)
  have hE := Ext.refl wb
  have Hsz : Hid (w.heap.size + 1 = wb.heap.size) := Lib.hid (by rw [hwb]; simp [go_sem])
  have Hwb := Lib.hid hwb
  clear hwb h
  obtain ⟨ao, c, adr, rfl, hlen, hadr, hcell⟩ := hX.op
  have hix := ints_index (c := c) elI szI hadr
  clear hadr hX
  go_enter Try.func82, Try.ntmps82
  go_wp2_with fail
  rw [← Hwb.out]
  go_loopw [6, 11] (fun av iv wr => ∃ (k a : Nat), k ≤ X.length ∧ iv = .int .i64 k ∧ av = .int .i64 a ∧ a < 2 ^ 24 ∧ Ext wb wr ∧ Hid (soG l X 0 = soG l (X.drop k) a)) (fun _ iv _ => X.length - (intOf iv).toNat)
  case atStart => exact ⟨0, 0, by omega, rfl, rfl, by decide, hE, Lib.hid rfl⟩
  case round =>
    clear hE
    obtain ⟨k, a, hk, rfl, rfl, ha, hE, H⟩ := hrel
    have kb := hb _ hE
    by_cases hlt : k < X.length
    · have hd := drop_nth X k hlt
      have hck := hcell k wr hlt (hE0.trans hE)
      cases hh : hasB l (nth X k)
      · have Hn : Hid (soB l X = false ∧ soV l X = 0) := Lib.hid (soG_no (by rw [H.out, hd, soG_hno hh]))
        have cI := has_any v l (nth X k) wr (hg _ hE)
        rw [hh] at cI
        clear hd hh
        go_wp2_with (go_at_call 90; refine cI.mono ?_; rintro e w1 ⟨rfl, hE1⟩)
        exact bodyPost_ret (v := .tuple #[.int .i64 0, .bool false]) (by simp [results, Try.results82, go_sem]) rfl ⟨by rw [Hn.out.1, Hn.out.2], hE0.trans (hE.trans hE1)⟩
      · have cI := has_any v l (nth X k) wr (hg _ hE)
        rw [hh] at cI
        obtain ⟨n, hn, hno, hgr⟩ := hasB_nat hh
        have hob := ord_bd hgr
        rw [hn] at hd hh cI hck
        have Hx := Lib.hid hn
        have hs1 := ishl_one (n := n) (by omega)
        have hor := ior_pw (o := a) (z := n) ha (by omega)
        cases ht : a.testBit n
        · have hin := in_val a n ha (by omega) (b := false)
          have Hn : Hid (soG l X 0 = soG l (X.drop (k + 1)) (a ||| 2 ^ n)) := Lib.hid (by rw [H.out, hd, soG_go hh ht])
          have hab : a ||| 2 ^ n < 2 ^ 24 := Nat.or_lt_two_pow ha (Nat.pow_lt_pow_right (by omega) (by omega))
          have ci := fun W => hin W ht
          clear hd hh ht hgr hn hin
          have hcx : ∀ W, Ext wr W → W.cell? (adr k) = some (.int .i64 (n : Int)) := fun W hW => hW.cell hck
          go_wp2_with (first | (go_at_call 90; refine cI.mono ?_; rintro e w1 ⟨rfl, hE1⟩) | (go_at_call 91; refine (ci _).mono ?_; rintro e w' ⟨rfl, rfl⟩))
          go_roundw
          case rel => exact ⟨k + 1, a ||| 2 ^ n, by omega, by go_num, rfl, hab, hE.trans hE1, Hn⟩
          case measure => (simp [intOf]; omega)
        · have hin := in_val a n ha (by omega) (b := true)
          have Hn : Hid (soB l X = false ∧ soV l X = 0) := Lib.hid (soG_no (by rw [H.out, hd, soG_bno ht]))
          have ci := fun W => hin W ht
          clear hd hh ht hgr hn hin
          go_wp2_with (first | (go_at_call 90; refine cI.mono ?_; rintro e w1 ⟨rfl, hE1⟩) | (go_at_call 91; refine (ci _).mono ?_; rintro e w' ⟨rfl, rfl⟩))
          exact bodyPost_ret (v := .tuple #[.int .i64 0, .bool false]) (by simp [results, Try.results82, go_sem]) rfl ⟨by rw [Hn.out.1, Hn.out.2], hE0.trans (hE.trans hE1)⟩
    · have hkl : k = X.length := by omega
      have Hn : Hid (soB l X = isGrp l ∧ soV l X = (a : Int)) := Lib.hid (soG_yes (by rw [H.out, hkl, List.drop_length]; rfl))
      clear hkl
      have cG := IsGroup_any v l wr (hg _ hE)
      go_wp2_with (refine cG.mono ?_; rintro e w1 ⟨rfl, hE1⟩)
      exact bodyPost_ret (v := .tuple #[.int .i64 a, .bool (isGrp l)]) (by simp [results, Try.results82, go_sem]) rfl ⟨by rw [Hn.out.1, Hn.out.2], hE0.trans (hE.trans hE1)⟩
end Go.Zz

/- Automorphisms: plain. -/
namespace Go.Zz
set_option maxHeartbeats 1000000
set_option linter.unusedVariables false
set_option maxRecDepth 100000

theorem mulF_ord {l : List Int} (h : Ords l) (h0 : 0 < ord l) (x : Nat) : ∀ n, mulF l x n < ord l
  | 0 => h0
  | n + 1 => addF_lt l h _ _
theorem addF_zero_r {l : List Int} (h : Ords l) {x : Nat} (hx : x < ord l) : addF l x 0 = x := by rw [addF_comm]; exact addF_zero l h x hx
theorem mulF_one {l : List Int} (h : Ords l) {x : Nat} (hx : x < ord l) : mulF l x 1 = x := addF_zero l h x hx
/-- images times places, added up -/
def lcT (l : List Int) (I P : List Nat) : Nat → Nat
  | 0 => 0
  | k + 1 => addF l (lcT l I P k) (mulF l (nthN I k) (nthN P k))
def exV (l : List Int) (I : List Nat) (x : Nat) : Nat := lcT l I (plP l x l.length) l.length
def extF (l : List Int) (I : List Nat) : List Nat := (List.range (ord l)).map (exV l I)
theorem extF_len (l : List Int) (I : List Nat) : (extF l I).length = ord l := by simp [extF]
theorem lcT_lt {l : List Int} (h : isGrp l = true) (I P : List Nat) (k : Nat) : lcT l I P k < ord l := by
  have := ord_bd h
  cases k with
  | zero => show 0 < ord l; omega
  | succ k => exact addF_lt l (isGrp_ords h) _ _
theorem extF_nth {l : List Int} (I : List Nat) {x : Nat} (hx : x < ord l) : nthN (extF l I) x = exV l I x := by
  simp [nthN, extF, List.getD, hx]
theorem extF_lt {l : List Int} (h : isGrp l = true) (I : List Nat) : ∀ y ∈ extF l I, y < ord l := by
  intro y hy
  obtain ⟨x, -, rfl⟩ := List.mem_map.1 hy
  exact lcT_lt h _ _ _
theorem extF_take (l : List Int) (I : List Nat) {x : Nat} : (List.range (x + 1)).map (exV l I) = (List.range x).map (exV l I) ++ [exV l I x] := by
  rw [List.range_succ, List.map_append]; rfl
/-- sums are kept -/
def hmE (l : List Int) (F : List Nat) (x y : Nat) : Bool := decide (nthN F (addF l x y) = addF l (nthN F x) (nthN F y))
def homB (l : List Int) (F : List Nat) : Bool := (List.range (ord l)).all fun x => (List.range (ord l)).all fun y => hmE l F x y
theorem homB_iff {l : List Int} {F : List Nat} : homB l F = true ↔ ∀ x y, x < ord l → y < ord l → hmE l F x y = true := by
  unfold homB
  simp only [List.all_eq_true, List.mem_range]
  constructor
  · intro H x y h1 h2; exact H x h1 y h2
  · intro H x h1 y h2; exact H x y h1 h2
theorem homB_no {l : List Int} {F : List Nat} {x y : Nat} (h1 : x < ord l) (h2 : y < ord l) (e : hmE l F x y = false) : homB l F = false := by
  rw [← Bool.not_eq_true, homB_iff]; intro H; rw [H x y h1 h2] at e; cases e
def autB (l : List Int) (F : List Nat) : Bool := soB l (castL F) && (decide (soV l (castL F) = (fullN l : Int)) && homB l F)
/-- generators -/
def unitL (m k : Nat) : List Nat := (List.replicate m 0).set k 1
def genChk (l : List Int) : Bool := (List.range l.length).all fun k => (List.range (ord l)).any fun e => decide (plP l e l.length = unitL l.length k) && decide (mulF l e (nth l k).toNat = 0)
theorem gc0 : genChk [] = true := by decide +kernel
theorem gc1 : ((List.range 10).all fun a => decide (a < 2) || genChk [(a : Int)]) = true := by decide +kernel
theorem gc2 : ((List.range 10).all fun a => decide (a < 2) || (List.range 10).all fun b => decide (b < 2) || (decide (9 < a * b) || genChk [(a : Int), (b : Int)])) = true := by decide +kernel
theorem gc3 : ((List.range 10).all fun a => decide (a < 2) || (List.range 10).all fun b => decide (b < 2) || (decide (4 < a * b) || (List.range 10).all fun c => decide (c < 2) || (decide (9 < a * b * c) || genChk [(a : Int), (b : Int), (c : Int)]))) = true := by decide +kernel
theorem or_elimA {p : Prop} [Decidable p] {b : Bool} (h : (decide p || b) = true) (hn : ¬ p) : b = true := by
  rw [decide_eq_false hn] at h; simpa using h
theorem rgA {p : Nat → Bool} (h : (List.range 10).all p = true) {a : Nat} (ha : a ≤ 9) : p a = true := List.all_eq_true.1 h a (List.mem_range.2 (by omega))
theorem gen_grp {l : List Int} (h : isGrp l = true) (h9 : ord l ≤ 9) : genChk l = true := by
  have hc := ord_cast h
  obtain ⟨h3, hn, hp⟩ := (isGrp_iff l).1 h
  have hp : prodL l ≤ 9 := by omega
  clear hc
  match l, h3, hn, hp with
  | [], _, _, _ => exact gc0
  | [a], _, hn, hp =>
    have h0 : 2 ≤ a ∧ a ≤ 24 := hn 0 (by simp)
    have hp : a ≤ 9 := by simpa [prodL] using hp
    have := or_elimA (rgA gc1 (a := a.toNat) (by omega)) (by omega)
    rwa [show ((a.toNat : Nat) : Int) = a by omega] at this
  | [a, b], _, hn, hp =>
    have h0 : 2 ≤ a ∧ a ≤ 24 := hn 0 (by simp)
    have h1 : 2 ≤ b ∧ b ≤ 24 := hn 1 (by simp)
    have hpr : a * b ≤ 9 := by simpa [prodL] using hp
    have e : ((a.toNat * b.toNat : Nat) : Int) = a * b := by rw [Int.natCast_mul]; congr 1 <;> omega
    have q1 : a * 2 ≤ a * b := Int.mul_le_mul_of_nonneg_left h1.1 (by omega)
    have q2 : 2 * b ≤ a * b := Int.mul_le_mul_of_nonneg_right h0.1 (by omega)
    have := or_elimA (or_elimA (rgA (or_elimA (rgA gc2 (a := a.toNat) (by omega)) (by omega)) (a := b.toNat) (by omega)) (by omega)) (by omega)
    rwa [show ((a.toNat : Nat) : Int) = a by omega, show ((b.toNat : Nat) : Int) = b by omega] at this
  | [a, b, c], _, hn, hp =>
    have h0 : 2 ≤ a ∧ a ≤ 24 := hn 0 (by simp)
    have h1 : 2 ≤ b ∧ b ≤ 24 := hn 1 (by simp)
    have h2 : 2 ≤ c ∧ c ≤ 24 := hn 2 (by simp)
    have hpr : a * b * c ≤ 9 := by rw [Int.mul_assoc]; simpa [prodL] using hp
    have e : ((a.toNat * b.toNat * c.toNat : Nat) : Int) = a * b * c := by rw [Int.natCast_mul, Int.natCast_mul]; congr 1; congr 1 <;> omega; omega
    have e2 : ((a.toNat * b.toNat : Nat) : Int) = a * b := by rw [Int.natCast_mul]; congr 1 <;> omega
    have q0 : 2 * 2 ≤ a * b := Int.mul_le_mul h0.1 h1.1 (by omega) (by omega)
    have q1 : a * b * 2 ≤ a * b * c := Int.mul_le_mul_of_nonneg_left h2.1 (by omega)
    have q2 : 4 * c ≤ a * b * c := Int.mul_le_mul_of_nonneg_right (by omega) (by omega)
    have q3 : a * 2 ≤ a * b := Int.mul_le_mul_of_nonneg_left h1.1 (by omega)
    have q4 : 2 * b ≤ a * b := Int.mul_le_mul_of_nonneg_right h0.1 (by omega)
    have u := rgA (or_elimA (rgA gc3 (a := a.toNat) (by omega)) (by omega)) (a := b.toNat) (by omega)
    have := or_elimA (or_elimA (rgA (or_elimA (or_elimA u (by omega)) (by omega)) (a := c.toNat) (by omega)) (by omega)) (by omega)
    rwa [show ((a.toNat : Nat) : Int) = a by omega, show ((b.toNat : Nat) : Int) = b by omega, show ((c.toNat : Nat) : Int) = c by omega] at this
  | _ :: _ :: _ :: _ :: _, h3, _, _ => simp at h3
theorem unitL_nth {m k j : Nat} (hj : j < m) : nthN (unitL m k) j = if k = j then 1 else 0 := by
  unfold nthN unitL
  rw [List.getD_eq_getElem?_getD, List.getElem?_set]
  by_cases e : k = j
  · subst e; simp [hj]
  · simp [e, hj]
theorem lcT_unit {l : List Int} (h : isGrp l = true) {I : List Nat} {m k : Nat} (hk : k < m) (hI : nthN I k < ord l) :
    ∀ j, j ≤ m → lcT l I (unitL m k) j = if k < j then nthN I k else 0 := by
  have ho := isGrp_ords h
  have h1 := ord_bd h
  intro j
  induction j with
  | zero => intro _; rfl
  | succ j ih =>
    intro hj
    show addF l (lcT l I (unitL m k) j) (mulF l (nthN I j) (nthN (unitL m k) j)) = _
    rw [ih (by omega), unitL_nth (by omega)]
    by_cases e : k = j
    · subst e
      rw [if_neg (by omega), if_pos rfl, if_pos (by omega), mulF_one ho hI]
      exact addF_zero l ho _ hI
    · rw [if_neg e]
      by_cases e2 : k < j
      · rw [if_pos e2, if_pos (by omega)]; exact addF_zero_r ho hI
      · rw [if_neg e2, if_neg (by omega)]; exact addF_zero l ho 0 (by omega)
/-- what the reference asks of the images -/
def fineK (l : List Int) (I : List Nat) : Nat → Bool
  | 0 => true
  | k + 1 => fineK l I k && decide (mulF l (nthN I k) (nth l k).toNat = 0)
theorem fineK_iff {l : List Int} {I : List Nat} : ∀ {m : Nat}, fineK l I m = true ↔ ∀ k, k < m → mulF l (nthN I k) (nth l k).toNat = 0
  | 0 => by simp [fineK]
  | m + 1 => by
    unfold fineK
    rw [Bool.and_eq_true, fineK_iff, decide_eq_true_eq]
    constructor
    · rintro ⟨h1, h2⟩ k hk
      by_cases e : k = m
      · rw [e]; exact h2
      · exact h1 k (by omega)
    · intro H; exact ⟨fun k hk => H k (by omega), H m (by omega)⟩
theorem aut_fine {l : List Int} (h : isGrp l = true) (h9 : ord l ≤ 9) {I : List Nat} (hI : ∀ k, k < l.length → nthN I k < ord l) (ha : autB l (extF l I) = true) : fineK l I l.length = true := by
  have ho := isGrp_ords h
  have h1 := ord_bd h
  have hh : homB l (extF l I) = true := by unfold autB at ha; simp only [Bool.and_eq_true] at ha; exact ha.2.2
  have hom : ∀ x y, x < ord l → y < ord l → exV l I (addF l x y) = addF l (exV l I x) (exV l I y) := fun x y hx hy => by
    have := homB_iff.1 hh x y hx hy
    unfold hmE at this
    rw [decide_eq_true_eq, extF_nth I (addF_lt l ho x y), extF_nth I hx, extF_nth I hy] at this
    exact this
  have hlt : ∀ x, exV l I x < ord l := fun x => lcT_lt h _ _ _
  have h0 : exV l I 0 = 0 := by
    have := hom 0 0 (by omega) (by omega)
    rw [addF_zero l ho 0 (by omega)] at this
    refine addF_cancel ho (hlt 0) (show 0 < ord l by omega) ?_ (x := exV l I 0)
    rw [← this, addF_zero_r ho (hlt 0)]
  have hm : ∀ e n, e < ord l → exV l I (mulF l e n) = mulF l (exV l I e) n := by
    intro e n he
    induction n with
    | zero => exact h0
    | succ n ih =>
      show exV l I (addF l (mulF l e n) e) = addF l (mulF l (exV l I e) n) (exV l I e)
      rw [hom _ _ (mulF_ord ho (by omega) e n) he, ih]
  rw [fineK_iff]
  intro k hk
  have g := gen_grp h h9
  unfold genChk at g
  rw [List.all_eq_true] at g
  have g2 := g k (List.mem_range.2 hk)
  rw [List.any_eq_true] at g2
  obtain ⟨e, he, g3⟩ := g2
  rw [Bool.and_eq_true, decide_eq_true_eq, decide_eq_true_eq] at g3
  have he := List.mem_range.1 he
  have hv : exV l I e = nthN I k := by
    unfold exV
    rw [g3.1, lcT_unit h hk (hI k hk) _ (Nat.le_refl _), if_pos hk]
  have := hm e (nth l k).toNat he
  rw [g3.2, h0, hv] at this
  exact this.symm

/-! ### how many -/
def sumN (f : Nat → Nat) : Nat → Nat
  | 0 => 0
  | k + 1 => sumN f k + f k
theorem sumN_congr {f g : Nat → Nat} {n : Nat} (h : ∀ k, k < n → f k = g k) : sumN f n = sumN g n := by
  induction n with
  | zero => rfl
  | succ n ih => show sumN f n + f n = sumN g n + g n; rw [ih (fun k hk => h k (by omega)), h n (by omega)]
theorem sumN_add (f : Nat → Nat) (a : Nat) : ∀ b, sumN f (a + b) = sumN f a + sumN (fun c => f (a + c)) b
  | 0 => rfl
  | b + 1 => by show sumN f (a + b) + f (a + b) = sumN f a + (sumN (fun c => f (a + c)) b + f (a + b)); rw [sumN_add f a b]; omega
theorem sumN_mul (f : Nat → Nat) (M : Nat) : ∀ n, sumN f (M * n) = sumN (fun x => sumN (fun c => f (c + M * x)) M) n
  | 0 => rfl
  | n + 1 => by
    rw [Nat.mul_succ, sumN_add, sumN_mul f M n]
    show _ = sumN _ n + sumN (fun c => f (c + M * n)) M
    congr 1
    exact sumN_congr fun c _ => by rw [Nat.add_comm]
theorem sumN_le {f : Nat → Nat} {b : Nat} (h : ∀ k, f k ≤ b) : ∀ n, sumN f n ≤ n * b
  | 0 => by simp [sumN]
  | n + 1 => by have := sumN_le h n; have := h n; rw [Nat.succ_mul]; show sumN f n + f n ≤ _; omega
theorem sumN_mono (f : Nat → Nat) (a : Nat) : ∀ d, sumN f a ≤ sumN f (a + d)
  | 0 => Nat.le_refl _
  | d + 1 => Nat.le_trans (sumN_mono f a d) (Nat.le_add_right _ _)
/-- the program: image after image -/
def autT (l : List Int) : Nat → List Nat → Nat
  | 0, X => if autB l (extF l X) then 1 else 0
  | r + 1, X => sumN (fun x => autT l r (X ++ [x])) (ord l)
def digQ (n c : Nat) : Nat → Nat
  | 0 => c
  | i + 1 => digQ n c i / n
def digU (n c : Nat) : Nat → List Nat
  | 0 => []
  | i + 1 => (digQ n c i % n) :: digU n c i
theorem digU_len (n c : Nat) : ∀ i, (digU n c i).length = i
  | 0 => rfl
  | i + 1 => by simp [digU, digU_len n c i]
theorem digU_lt {n : Nat} (h : 0 < n) (c : Nat) : ∀ i, ∀ x ∈ digU n c i, x < n
  | 0 => by simp [digU]
  | i + 1 => by
    intro x hx
    rw [digU, List.mem_cons] at hx
    rcases hx with rfl | hx
    · exact Nat.mod_lt _ h
    · exact digU_lt h c i x hx
theorem digQ_eq (n c : Nat) : ∀ i, digQ n c i = c / n ^ i
  | 0 => by simp [digQ]
  | i + 1 => by rw [digQ, digQ_eq n c i, Nat.div_div_eq_div_mul, Nat.pow_succ]
theorem digQ_le (n c i : Nat) : digQ n c i ≤ c := by rw [digQ_eq]; exact Nat.div_le_self _ _
theorem dig_add {n : Nat} (h : 0 < n) (c x r : Nat) : ∀ i, i ≤ r → digU n (c + n ^ r * x) i = digU n c i
  | 0, _ => rfl
  | i + 1, hi => by
    rw [digU, digU, dig_add h c x r i (by omega), digQ_eq, digQ_eq]
    congr 1
    obtain ⟨d, rfl⟩ : ∃ d, r = i + 1 + d := ⟨r - (i + 1), by omega⟩
    rw [show n ^ (i + 1 + d) * x = n ^ i * (n * (n ^ d * x)) by rw [Nat.pow_add, Nat.pow_succ]; simp [Nat.mul_assoc], Nat.add_mul_div_left _ _ (Nat.pow_pos h), Nat.add_mul_mod_self_left]
theorem dig_top {n c x r : Nat} (hc : c < n ^ r) (hx : x < n) : digU n (c + n ^ r * x) (r + 1) = x :: digU n c r := by
  have h : 0 < n := by omega
  rw [digU, dig_add h c x r r (Nat.le_refl _), digQ_eq, Nat.add_mul_div_left _ _ (Nat.pow_pos h), Nat.div_eq_of_lt hc, Nat.zero_add, Nat.mod_eq_of_lt hx]
def autOne (l : List Int) (I : List Nat) : Nat := if fineK l I l.length && autB l (extF l I) then 1 else 0
/-- the reference: code after code -/
def autR (l : List Int) (K : Nat) : Nat := sumN (fun c => autOne l (digU (ord l) c l.length)) K
theorem autT_sum (l : List Int) : ∀ r X, autT l r X = sumN (fun c => if autB l (extF l (X ++ digU (ord l) c r)) then 1 else 0) (ord l ^ r)
  | 0, X => by simp [autT, sumN, digU]
  | r + 1, X => by
    rw [Nat.pow_succ, sumN_mul]
    show sumN (fun x => autT l r (X ++ [x])) (ord l) = _
    refine sumN_congr fun x hx => ?_
    rw [autT_sum l r]
    refine sumN_congr fun c hc => ?_
    rw [dig_top hc hx, List.append_assoc]; rfl
theorem aut_same {l : List Int} (h : isGrp l = true) (h9 : ord l ≤ 9) : autT l l.length [] = autR l (ord l ^ l.length) := by
  rw [autT_sum, autR]
  have h1 := ord_bd h
  refine sumN_congr fun c _ => ?_
  rw [List.nil_append, autOne]
  cases ha : autB l (extF l (digU (ord l) c l.length))
  · simp
  · rw [aut_fine h h9 (fun k hk => digU_lt (by omega) c _ _ (nthN_mem (by rw [digU_len]; exact hk))) ha]; rfl
theorem autT_le (l : List Int) : ∀ r X, autT l r X ≤ ord l ^ r
  | 0, X => by unfold autT; split <;> simp
  | r + 1, X => by
    rw [Nat.pow_succ, Nat.mul_comm]
    exact sumN_le (fun x => autT_le l r (X ++ [x])) (ord l)
theorem autR_le (l : List Int) (K : Nat) : autR l K ≤ K := by
  have := sumN_le (f := fun c => autOne l (digU (ord l) c l.length)) (b := 1) (fun c => by unfold autOne; split <;> omega) K
  rw [Nat.mul_one] at this; exact this
end Go.Zz
