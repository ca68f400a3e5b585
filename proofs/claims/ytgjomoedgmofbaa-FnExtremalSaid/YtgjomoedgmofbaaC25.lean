/- The pair of sets with the least sum. -/
import Derived.Test.YtgjomoedgmofbaaC18
namespace Go.Zz
open Go.RowKit Go.Proofs
set_option maxHeartbeats 400000

def lsB (l : List Int) (n m : Int) : Bool := isGrp l && decide (ord l ≤ 8) && inB n 1 (ord l) && inB m 1 (ord l)
theorem lsB_grp {l : List Int} {n m : Int} (h : isGrp l = false) : lsB l n m = false := by unfold lsB; rw [h]; rfl
theorem lsB_ord {l : List Int} {n m : Int} (h : ¬ ord l ≤ 8) : lsB l n m = false := by unfold lsB; simp [h]
theorem lsB_n {l : List Int} {n m : Int} (h : inB n 1 (ord l) = false) : lsB l n m = false := by unfold lsB; rw [h]; simp
theorem lsB_m {l : List Int} {n m : Int} (h : inB m 1 (ord l) = false) : lsB l n m = false := by unfold lsB; rw [h]; simp
theorem lsB_yes {l : List Int} {n m : Int} (h : isGrp l = true) (h2 : ord l ≤ 8) (h3 : inB n 1 (ord l) = true) (h4 : inB m 1 (ord l) = true) : lsB l n m = true := by unfold lsB; rw [h, h3, h4]; simp [h2]
theorem lsB_parts {l : List Int} {n m : Int} (h : lsB l n m = true) : isGrp l = true ∧ ord l ≤ 8 ∧ inB n 1 (ord l) = true ∧ inB m 1 (ord l) = true := by
  unfold lsB at h
  simp only [Bool.and_eq_true, decide_eq_true_eq] at h
  exact ⟨h.1.1.1, h.1.1.2, h.1.2, h.2⟩
structure P3 where
  x : Nat
  y : Nat
  s : Nat
/-- the size of a + b -/
def prC (l : List Int) (a b : Nat) : Nat := cnt (sumF l a b)
def lsStep (l : List Int) (p : P3) (ab : Nat × Nat) : P3 := if prC l ab.1 ab.2 < p.s then ⟨ab.1, ab.2, prC l ab.1 ab.2⟩ else p
def lsIn (l : List Int) (a : Nat) (p : P3) (M : List Nat) : P3 := M.foldl (fun p b => lsStep l p (a, b)) p
def lsOut (l : List Int) (M : List Nat) (p : P3) (L : List Nat) : P3 := L.foldl (fun p a => lsIn l a p M) p
theorem lsIn_snoc (l : List Int) (a : Nat) (p : P3) (M : List Nat) (b : Nat) : lsIn l a p (M ++ [b]) = lsStep l (lsIn l a p M) (a, b) := by unfold lsIn; rw [List.foldl_append]; rfl
theorem lsOut_snoc (l : List Int) (M : List Nat) (p : P3) (L : List Nat) (a : Nat) : lsOut l M p (L ++ [a]) = lsIn l a (lsOut l M p L) M := by unfold lsOut; rw [List.foldl_append]; rfl
theorem lsStep_yes {l : List Int} {p : P3} {a b : Nat} (h : prC l a b < p.s) : lsStep l p (a, b) = ⟨a, b, prC l a b⟩ := if_pos h
theorem lsStep_no {l : List Int} {p : P3} {a b : Nat} (h : ¬ prC l a b < p.s) : lsStep l p (a, b) = p := if_neg h
theorem lsOut_flat (l : List Int) (M : List Nat) : ∀ (L : List Nat) (p : P3), lsOut l M p L = (L.flatMap (fun a => M.map (fun b => (a, b)))).foldl (lsStep l) p
  | [], _ => rfl
  | a :: L, p => by
    show lsOut l M (lsIn l a p M) L = _
    rw [lsOut_flat l M L, List.flatMap_cons, List.foldl_append, List.foldl_map]; rfl
theorem lsOut_any (l : List Int) {A B : Nat} (hA : ∀ a b, prC l a b < A) (hB : ∀ a b, prC l a b < B) (M L : List Nat) :
    (lsOut l M ⟨0, 0, A⟩ L).x = (lsOut l M ⟨0, 0, B⟩ L).x ∧ (lsOut l M ⟨0, 0, A⟩ L).y = (lsOut l M ⟨0, 0, B⟩ L).y := by
  rw [lsOut_flat, lsOut_flat]
  cases L.flatMap (fun a => M.map (fun b => (a, b))) with
  | nil => exact ⟨rfl, rfl⟩
  | cons ab K =>
    obtain ⟨a, b⟩ := ab
    rw [List.foldl_cons, List.foldl_cons, lsStep_yes (hA a b), lsStep_yes (hB a b)]; exact ⟨rfl, rfl⟩
theorem fold_bd (l : List Int) (B S : Nat) : ∀ (K : List (Nat × Nat)) (p : P3), (∀ ab ∈ K, ab.1 < B ∧ ab.2 < B) → p.x < B → p.y < B → p.s ≤ S →
    (K.foldl (lsStep l) p).x < B ∧ (K.foldl (lsStep l) p).y < B ∧ (K.foldl (lsStep l) p).s ≤ S
  | [], _, _, h1, h2, h3 => ⟨h1, h2, h3⟩
  | (a, b) :: K, p, h, h1, h2, h3 => by
    have hab := h (a, b) (by simp)
    rw [List.foldl_cons]
    by_cases e : prC l a b < p.s
    · rw [lsStep_yes e]; exact fold_bd l B S K _ (fun x hx => h x (by simp [hx])) hab.1 hab.2 (by show prC l a b ≤ S; omega)
    · rw [lsStep_no e]; exact fold_bd l B S K _ (fun x hx => h x (by simp [hx])) h1 h2 h3
theorem lsOut_bd (l : List Int) {B S : Nat} {M L : List Nat} (hB : 0 < B) (hM : ∀ b ∈ M, b < B) (hL : ∀ a ∈ L, a < B) :
    (lsOut l M ⟨0, 0, S⟩ L).x < B ∧ (lsOut l M ⟨0, 0, S⟩ L).y < B ∧ (lsOut l M ⟨0, 0, S⟩ L).s ≤ S := by
  rw [lsOut_flat]
  refine fold_bd l B S _ _ ?_ hB hB (Nat.le_refl _)
  rintro ⟨a, b⟩ h
  obtain ⟨u, hu, hv⟩ := List.mem_flatMap.1 h
  obtain ⟨c, hc, e⟩ := List.mem_map.1 hv
  cases e; exact ⟨hL _ hu, hM _ hc⟩
theorem lsIn_s (l : List Int) (a : Nat) : ∀ (M : List Nat) (p : P3), (lsIn l a p M).s ≤ p.s
  | [], _ => Nat.le_refl _
  | b :: M, p => by
    show (lsIn l a (lsStep l p (a, b)) M).s ≤ _
    refine Nat.le_trans (lsIn_s l a M _) ?_
    by_cases e : prC l a b < p.s
    · rw [lsStep_yes e]; exact Nat.le_of_lt e
    · rw [lsStep_no e]; exact Nat.le_refl _
theorem lsOut_s (l : List Int) (M : List Nat) : ∀ (L : List Nat) (p : P3), (lsOut l M p L).s ≤ p.s
  | [], _ => Nat.le_refl _
  | a :: L, p => by
    show (lsOut l M (lsIn l a p M) L).s ≤ _
    exact Nat.le_trans (lsOut_s l M L _) (lsIn_s l a M p)
theorem cnt_ord' {l : List Int} (h : isGrp l = true) {a : Nat} (ha : a < 2 ^ ord l) : cnt a ≤ ord l := by
  unfold cnt
  rw [show elems a = elemsTo a (ord l) from (elemsTo_all (ord_bd h).2 ha).symm]
  exact elemsTo_len _ _
theorem prC_le {l : List Int} (h : isGrp l = true) (a b : Nat) : prC l a b ≤ ord l := cnt_ord' h (sumF_lt (isGrp_ords h) a b)
def lsR (l : List Int) (n m : Nat) : P3 := lsOut l (oddTo m (halfN l)) ⟨0, 0, 100⟩ (oddTo n (halfN l))
def lsX (l : List Int) (n m : Int) : Int := if lsB l n m then ((lsR l n.toNat m.toNat).x : Int) else 0
def lsY (l : List Int) (n m : Int) : Int := if lsB l n m then ((lsR l n.toNat m.toNat).y : Int) else 0
theorem ls_no {l : List Int} {n m : Int} (h : lsB l n m = false) : lsX l n m = 0 ∧ lsY l n m = 0 := by unfold lsX lsY; rw [h]; exact ⟨rfl, rfl⟩
theorem ls_yes {l : List Int} {n m : Nat} (h : lsB l n m = true) : lsX l n m = ((lsR l n m).x : Int) ∧ lsY l n m = ((lsR l n m).y : Int) := by unfold lsX lsY; rw [h]; exact ⟨rfl, rfl⟩
def lsV (l : List Int) (n m : Int) : Value := .tuple #[.int .i64 (lsX l n m), .int .i64 (lsY l n m), .bool (lsB l n m)]
theorem lsV_no {l : List Int} {n m : Int} (h : lsB l n m = false) : lsV l n m = .tuple #[.int .i64 0, .int .i64 0, .bool false] := by unfold lsV; rw [(ls_no h).1, (ls_no h).2, h]
theorem lsV_yes {l : List Int} {n m : Nat} (h : lsB l n m = true) : lsV l n m = .tuple #[.int .i64 ((lsR l n m).x : Int), .int .i64 ((lsR l n m).y : Int), .bool true] := by unfold lsV; rw [(ls_yes h).1, (ls_yes h).2, h]

theorem LeastSumset_v (v : Value) (l : List Int) (n m : Int) (w : World) (h : Ints w v l) :
    Calls Try.prog 12 #[.agg #[v], .int .i64 n, .int .i64 m] w fun e w' => e = .returned (lsV l n m) ∧ Ext w w' := by
  obtain ⟨wb, hwb⟩ : ∃ wb, wb = w.alloc (.cells #[v] 26) := ⟨_, rfl⟩
  have hE0 := (Ext.refl w).alloc (.cells #[v] 26)
  have hb := box_cell w v 26
  rw [← hwb] at hE0 hb
  have hg : ∀ W, Ext wb W → Ints W v l := fun W hW => h.ext (hE0.trans hW)
  have hE := Ext.refl wb
  have Hsz : Hid (w.heap.size + 1 = wb.heap.size) := Lib.hid (by rw [hwb]; simp [go_sem])
  have Hwb := Lib.hid hwb
  clear hwb h
  have hbx := hb wb hE
  cases hgr : isGrp l
  · have Hs := Lib.hid (lsB_grp (n := n) (m := m) hgr)
    have Ho := Lib.hid (ordF_f hgr)
    go_enter Try.func12, Try.ntmps12
    go_wp2_with fail
    rw [← Hwb.out]
    go_wp2_with (first | (go_at_call 108; refine (OrderOf_any _ _ _ (hg _ hE)).mono ?_; rw [Ho.out]; rintro e w' ⟨rfl, hE'⟩; replace hE := hE.trans hE'; clear hE') | (go_at_call 109; refine (IsGroup_any _ _ _ (hg _ hE)).mono ?_; rintro e w' ⟨rfl, hE'⟩; replace hE := hE.trans hE'; clear hE'))
    refine bodyPost_ret (v := .tuple #[.int .i64 0, .int .i64 0, .bool false]) (by simp [results, Try.results12, go_sem]) rfl ⟨by rw [lsV_no Hs.out], hE0.trans hE⟩
  · have Hgr := Lib.hid hgr
    have hob := ord_bd hgr
    by_cases h8 : ord l ≤ 8
    · have h8i : decide (8 < (ord l : Int)) = false := by simp; omega
      cases hin : inB n 1 (ord l)
      · have Hs := Lib.hid (lsB_n (m := m) hin)
        go_enter Try.func12, Try.ntmps12
        go_wp2_with fail
        rw [← Hwb.out]
        go_wp2_with (first | (go_at_call 109; refine (IsGroup_any _ _ _ (hg _ hE)).mono ?_; rintro e w' ⟨rfl, hE'⟩; replace hE := hE.trans hE'; clear hE') | (go_at_call 108; refine (OrderOf_grp _ _ _ (hg _ hE) (Hgr)).mono ?_; rintro e w' ⟨rfl, hE'⟩; replace hE := hE.trans hE'; clear hE') | (go_at_call 110; refine (within_any _ _ _ _).mono ?_; rintro e w' ⟨rfl, rfl⟩))
        refine bodyPost_ret (v := .tuple #[.int .i64 0, .int .i64 0, .bool false]) (by simp [results, Try.results12, go_sem]) rfl ⟨by rw [lsV_no Hs.out], hE0.trans hE⟩
      · cases him : inB m 1 (ord l)
        · have Hs := Lib.hid (lsB_m (n := n) him)
          go_enter Try.func12, Try.ntmps12
          go_wp2_with fail
          rw [← Hwb.out]
          go_wp2_with (first | (go_at_call 109; refine (IsGroup_any _ _ _ (hg _ hE)).mono ?_; rintro e w' ⟨rfl, hE'⟩; replace hE := hE.trans hE'; clear hE') | (go_at_call 108; refine (OrderOf_grp _ _ _ (hg _ hE) (Hgr)).mono ?_; rintro e w' ⟨rfl, hE'⟩; replace hE := hE.trans hE'; clear hE') | (go_at_call 110; refine (within_any _ _ _ _).mono ?_; rintro e w' ⟨rfl, rfl⟩))
          refine bodyPost_ret (v := .tuple #[.int .i64 0, .int .i64 0, .bool false]) (by simp [results, Try.results12, go_sem]) rfl ⟨by rw [lsV_no Hs.out], hE0.trans hE⟩
        · have Hs := Lib.hid (lsB_yes hgr h8 hin him)
          obtain ⟨n, rfl, hn1, hn2⟩ := in_nat hin
          obtain ⟨m, rfl, hm1, hm2⟩ := in_nat him
          have Hr := Lib.hid (lsV_yes Hs.out)
          obtain ⟨N, hNd⟩ : ∃ N : Nat, N = ord l + 1 := ⟨_, rfl⟩
          have hN9 : N ≤ 9 := by omega
          have Hany := Lib.hid (lsOut_any l (A := N) (B := 100) (fun a b => by have := prC_le hgr a b; omega) (fun a b => by have := prC_le hgr a b; omega) (oddTo m (halfN l)) (oddTo n (halfN l)))
          have hN : Hid ((ord l : Int) + 1 = (N : Int)) := Lib.hid (by omega)
          clear hNd
          go_enter Try.func12, Try.ntmps12
          go_wp2_with fail
          rw [← Hwb.out]
          go_wp2_with (first | (go_at_call 109; refine (IsGroup_any _ _ _ (hg _ hE)).mono ?_; rintro e w' ⟨rfl, hE'⟩; replace hE := hE.trans hE'; clear hE') | (go_at_call 108; refine (OrderOf_grp _ _ _ (hg _ hE) (Hgr)).mono ?_; rintro e w' ⟨rfl, hE'⟩; replace hE := hE.trans hE'; clear hE') | (go_at_call 110; refine (within_any _ _ _ _).mono ?_; rintro e w' ⟨rfl, rfl⟩) | (go_at_call 111; refine (sized_any _ _ n _ (hg _ hE) Hgr).mono ?_; rintro e w1 ⟨v1, rfl, hL, hE1⟩; replace hE := hE.trans hE1; obtain ⟨aoL, cL, adrL, rfl, hadrL, hcellL⟩ := hL.ints.nats; have hixL := ints_index (c := cL) elI szI hadrL; clear hadrL))
          have hb1 : ∀ W, Ext w1 W → W.cell? ⟨w.heap.size, 0, none⟩ = some v := fun W hW => hb W (hE.trans hW)
          have hg1 : ∀ W, Ext w1 W → Ints W v l := fun W hW => hg W (hE.trans hW)
          replace hE0 := hE0.trans hE
          replace hE := Ext.refl w1
          clear hb hg hL hE1 hbx hin him h8i
          have hall : ∀ y ∈ oddTo n (halfN l), y < 2 ^ 24 := fun y hy => oddTo_bd Hgr.out hy
          have hlen : (oddTo n (halfN l)).length ≤ 8388608 := Nat.le_trans (oddTo_len _ _) (halfN_bd Hgr.out)
          have hallM : ∀ y ∈ oddTo m (halfN l), y < 2 ^ 24 := fun y hy => oddTo_bd Hgr.out hy
          have hlenM : (oddTo m (halfN l)).length ≤ 8388608 := Nat.le_trans (oddTo_len _ _) (halfN_bd Hgr.out)
          obtain ⟨M, hMd⟩ : ∃ M, M = oddTo m (halfN l) := ⟨_, rfl⟩
          have HM := Lib.hid hMd
          rw [← hMd] at hallM hlenM Hany
          clear hMd
          obtain ⟨L, hLd⟩ : ∃ L, L = oddTo n (halfN l) := ⟨_, rfl⟩
          have HL := Lib.hid hLd
          rw [← hLd] at hall hlen Hany hcellL hixL ⊢
          clear hLd
          rw [hN.out]
          go_loopw [10, 11, 12, 45] (fun xv yv sv i wr => ∃ k : Nat, k ≤ L.length ∧ i = .int .i64 k ∧ xv = .int .i64 ((lsOut l M ⟨0, 0, N⟩ (L.take k)).x : Int) ∧ yv = .int .i64 ((lsOut l M ⟨0, 0, N⟩ (L.take k)).y : Int) ∧ sv = .int .i64 ((lsOut l M ⟨0, 0, N⟩ (L.take k)).s : Int) ∧ Ext w1 wr) (fun _ _ _ i _ => L.length - (intOf i).toNat)
          case atStart => exact ⟨0, by omega, rfl, rfl, rfl, rfl, hE⟩
          case round =>
            clear hE
            obtain ⟨k, hk, rfl, rfl, rfl, rfl, hE⟩ := hrel
            by_cases hlt : k < L.length
            · have hck := hcellL k _ hlt hE
              have hbx := hb1 _ hE
              have hby := hall _ (nthN_mem hlt)
              have Ht := Lib.hid (lsOut_snoc l M ⟨0, 0, N⟩ (L.take k) (nthN L k))
              have Ht2 := Lib.hid (take_nthN L k hlt)
              have hp := lsOut_s l M (L.take k) ⟨0, 0, N⟩
              replace hp : (lsOut l M ⟨0, 0, N⟩ (L.take k)).s ≤ N := hp
              generalize lsOut l M ⟨0, 0, N⟩ (L.take k) = p at Ht hp ⊢
              go_wp2_with (first | (go_at_call 111; refine (sized_any _ _ m _ (hg1 _ hE) Hgr).mono ?_; rw [← HM.out]; rintro e w2 ⟨v2, rfl, hM, hE2⟩; obtain ⟨aoM, cM, adrM, rfl, hadrM, hcellM⟩ := hM.ints.nats; have hixM := ints_index (c := cM) elI szI hadrM; clear hadrM))
              have hb2 : ∀ W, Ext w2 W → W.cell? ⟨w.heap.size, 0, none⟩ = some v := fun W hW => hb1 W (hE.trans (hE2.trans hW))
              have hg2 : ∀ W, Ext w2 W → Ints W v l := fun W hW => hg1 W (hE.trans (hE2.trans hW))
              have hEb := hE.trans hE2
              clear hM hE hE2 hbx hck
              have hE := Ext.refl w2
              go_loopw [10, 11, 12, 53] (fun xv yv sv i wq => ∃ j : Nat, j ≤ M.length ∧ i = .int .i64 j ∧ xv = .int .i64 ((lsIn l (nthN L k) p (M.take j)).x : Int) ∧ yv = .int .i64 ((lsIn l (nthN L k) p (M.take j)).y : Int) ∧ sv = .int .i64 ((lsIn l (nthN L k) p (M.take j)).s : Int) ∧ Ext w2 wq) (fun _ _ _ i _ => M.length - (intOf i).toNat)
              case atStart => exact ⟨0, by omega, rfl, rfl, rfl, rfl, hE⟩
              case round =>
                clear hE
                obtain ⟨j, hj, rfl, rfl, rfl, rfl, hE⟩ := hrel
                by_cases hlt2 : j < M.length
                · have hck := hcellM j _ hlt2 hE
                  have hbx := hb2 _ hE
                  have hbz := hallM _ (nthN_mem hlt2)
                  have Hu := Lib.hid (lsIn_snoc l (nthN L k) p (M.take j) (nthN M j))
                  have Hu2 := Lib.hid (take_nthN M j hlt2)
                  have hs := sumF_bd Hgr.out (nthN L k) (nthN M j)
                  have hdc : Hid (cnt (sumF l (nthN L k) (nthN M j)) = prC l (nthN L k) (nthN M j)) := Lib.hid rfl
                  have hq9 := lsIn_s l (nthN L k) (M.take j) p
                  generalize lsIn l (nthN L k) p (M.take j) = q at Hu hq9 ⊢
                  by_cases hq : prC l (nthN L k) (nthN M j) < q.s
                  · have Hy := Lib.hid (lsStep_yes hq)
                    go_wp2_with (first | (go_at_call 113; refine (sum_any _ _ _ _ _ (hg2 _ hE) (Hgr) (hby) (hbz)).mono ?_; rintro e w' ⟨rfl, hE'⟩; replace hE := hE.trans hE'; clear hE') | (go_at_call 112; refine (bits_any _ hs _).mono ?_; rintro e w' ⟨rfl, rfl⟩; rw [hdc.out]))
                    go_roundw
                    case rel => exact ⟨j + 1, by omega, by go_num, by rw [Hu2.out, Hu.out, Hy.out], by rw [Hu2.out, Hu.out, Hy.out], by rw [Hu2.out, Hu.out, Hy.out], hE⟩
                    case measure => (simp [intOf]; omega)
                  · have Hy := Lib.hid (lsStep_no hq)
                    go_wp2_with (first | (go_at_call 113; refine (sum_any _ _ _ _ _ (hg2 _ hE) (Hgr) (hby) (hbz)).mono ?_; rintro e w' ⟨rfl, hE'⟩; replace hE := hE.trans hE'; clear hE') | (go_at_call 112; refine (bits_any _ hs _).mono ?_; rintro e w' ⟨rfl, rfl⟩; rw [hdc.out]))
                    go_roundw
                    case rel => exact ⟨j + 1, by omega, by go_num, by rw [Hu2.out, Hu.out, Hy.out], by rw [Hu2.out, Hu.out, Hy.out], by rw [Hu2.out, Hu.out, Hy.out], hE⟩
                    case measure => (simp [intOf]; omega)
                · have hjl : j = M.length := by omega
                  subst hjl
                  go_wp2_with fail
                  go_roundw
                  case rel => exact ⟨k + 1, by omega, by go_num, by rw [Ht2.out, Ht.out, List.take_length], by rw [Ht2.out, Ht.out, List.take_length], by rw [Ht2.out, Ht.out, List.take_length], hEb.trans hE⟩
                  case measure => (simp [intOf]; omega)
            · have hkl : k = L.length := by omega
              subst hkl
              rw [List.take_length]
              go_wp2_with fail
              refine bodyPost_ret (v := .tuple #[.int .i64 ((lsOut l M ⟨0, 0, N⟩ L).x : Int), .int .i64 ((lsOut l M ⟨0, 0, N⟩ L).y : Int), .bool true]) (by simp [results, Try.results12, go_sem]) rfl ⟨by rw [Hr.out]; unfold lsR; rw [← HM.out, ← HL.out, Hany.out.1, Hany.out.2], hE0.trans hE⟩
    · have h8i : decide (8 < (ord l : Int)) = true := by simp; omega
      have Hs := Lib.hid (lsB_ord (n := n) (m := m) h8)
      go_enter Try.func12, Try.ntmps12
      go_wp2_with fail
      rw [← Hwb.out]
      go_wp2_with (first | (go_at_call 109; refine (IsGroup_any _ _ _ (hg _ hE)).mono ?_; rintro e w' ⟨rfl, hE'⟩; replace hE := hE.trans hE'; clear hE') | (go_at_call 108; refine (OrderOf_grp _ _ _ (hg _ hE) (Hgr)).mono ?_; rintro e w' ⟨rfl, hE'⟩; replace hE := hE.trans hE'; clear hE'))
      refine bodyPost_ret (v := .tuple #[.int .i64 0, .int .i64 0, .bool false]) (by simp [results, Try.results12, go_sem]) rfl ⟨by rw [lsV_no Hs.out], hE0.trans hE⟩
theorem LeastSumset_any (v : Value) (l : List Int) (n m : Int) (w : World) (h : Ints w v l) :
    Calls Try.prog 12 #[.agg #[v], .int .i64 n, .int .i64 m] w fun e w' => e = .returned (.tuple #[.int .i64 (lsX l n m), .int .i64 (lsY l n m), .bool (lsB l n m)]) ∧ Ext w w' := LeastSumset_v v l n m w h
theorem sLeastSumset_v (v : Value) (l : List Int) (n m : Int) (w : World) (h : Ints w v l) :
    Calls Try.prog 13 #[.agg #[v], .int .i64 n, .int .i64 m] w fun e w' => e = .returned (lsV l n m) ∧ Ext w w' := by
  obtain ⟨wb, hwb⟩ : ∃ wb, wb = w.alloc (.cells #[v] 26) := ⟨_, rfl⟩
  have hE0 := (Ext.refl w).alloc (.cells #[v] 26)
  have hb := box_cell w v 26
  rw [← hwb] at hE0 hb
  have hg : ∀ W, Ext wb W → Ints W v l := fun W hW => h.ext (hE0.trans hW)
  have hE := Ext.refl wb
  have Hsz : Hid (w.heap.size + 1 = wb.heap.size) := Lib.hid (by rw [hwb]; simp [go_sem])
  have Hwb := Lib.hid hwb
  clear hwb h
  have hbx := hb wb hE
  cases hgr : isGrp l
  · have Hs := Lib.hid (lsB_grp (n := n) (m := m) hgr)
    go_enter Try.func13, Try.ntmps13
    go_wp2_with fail
    rw [← Hwb.out]
    go_wp2_with (first | (go_at_call 114; refine (sIsGroup_any _ _ _ (hg _ hE)).mono ?_; rintro e w' ⟨rfl, hE'⟩; replace hE := hE.trans hE'; clear hE'))
    refine bodyPost_ret (v := .tuple #[.int .i64 0, .int .i64 0, .bool false]) (by simp [results, Try.results13, go_sem]) rfl ⟨by rw [lsV_no Hs.out], hE0.trans hE⟩
  · have Hgr := Lib.hid hgr
    have hob := ord_bd hgr
    by_cases h8 : ord l ≤ 8
    · have h8i : decide (8 < (ord l : Int)) = false := by simp; omega
      cases hin : inB n 1 (ord l)
      · have Hs := Lib.hid (lsB_n (m := m) hin)
        go_enter Try.func13, Try.ntmps13
        go_wp2_with fail
        rw [← Hwb.out]
        go_wp2_with (first | (go_at_call 114; refine (sIsGroup_any _ _ _ (hg _ hE)).mono ?_; rintro e w' ⟨rfl, hE'⟩; replace hE := hE.trans hE'; clear hE') | (go_at_call 115; refine (l2Order_any _ _ _ (hg _ hE) (Hgr)).mono ?_; rintro e w' ⟨rfl, hE'⟩; replace hE := hE.trans hE'; clear hE') | (go_at_call 116; refine (l1In_any _ _ _ _).mono ?_; rintro e w' ⟨rfl, rfl⟩))
        refine bodyPost_ret (v := .tuple #[.int .i64 0, .int .i64 0, .bool false]) (by simp [results, Try.results13, go_sem]) rfl ⟨by rw [lsV_no Hs.out], hE0.trans hE⟩
      · cases him : inB m 1 (ord l)
        · have Hs := Lib.hid (lsB_m (n := n) him)
          go_enter Try.func13, Try.ntmps13
          go_wp2_with fail
          rw [← Hwb.out]
          go_wp2_with (first | (go_at_call 114; refine (sIsGroup_any _ _ _ (hg _ hE)).mono ?_; rintro e w' ⟨rfl, hE'⟩; replace hE := hE.trans hE'; clear hE') | (go_at_call 115; refine (l2Order_any _ _ _ (hg _ hE) (Hgr)).mono ?_; rintro e w' ⟨rfl, hE'⟩; replace hE := hE.trans hE'; clear hE') | (go_at_call 116; refine (l1In_any _ _ _ _).mono ?_; rintro e w' ⟨rfl, rfl⟩))
          refine bodyPost_ret (v := .tuple #[.int .i64 0, .int .i64 0, .bool false]) (by simp [results, Try.results13, go_sem]) rfl ⟨by rw [lsV_no Hs.out], hE0.trans hE⟩
        · have Hs := Lib.hid (lsB_yes hgr h8 hin him)
          obtain ⟨n, rfl, hn1, hn2⟩ := in_nat hin
          obtain ⟨m, rfl, hm1, hm2⟩ := in_nat him
          have Hr := Lib.hid (lsV_yes Hs.out)
          have hp2 := pw_le hob.2
          have hs0 := ishl_one (n := ord l) (by omega)
          have hhb := halfN_bd hgr
          go_enter Try.func13, Try.ntmps13
          go_wp2_with fail
          rw [← Hwb.out]
          go_wp2_with (first | (go_at_call 114; refine (sIsGroup_any _ _ _ (hg _ hE)).mono ?_; rintro e w' ⟨rfl, hE'⟩; replace hE := hE.trans hE'; clear hE') | (go_at_call 115; refine (l2Order_any _ _ _ (hg _ hE) (Hgr)).mono ?_; rintro e w' ⟨rfl, hE'⟩; replace hE := hE.trans hE'; clear hE') | (go_at_call 116; refine (l1In_any _ _ _ _).mono ?_; rintro e w' ⟨rfl, rfl⟩))
          clear hbx hin him h8i hgr
          go_loopw [9, 10, 11, 12] (fun xv yv sv i wr => ∃ k : Nat, k ≤ halfN l ∧ i = .int .i64 (2 * (k : Int) + 1) ∧ xv = .int .i64 ((lsOut l (oddTo m (halfN l)) ⟨0, 0, 100⟩ (oddTo n k)).x : Int) ∧ yv = .int .i64 ((lsOut l (oddTo m (halfN l)) ⟨0, 0, 100⟩ (oddTo n k)).y : Int) ∧ sv = .int .i64 ((lsOut l (oddTo m (halfN l)) ⟨0, 0, 100⟩ (oddTo n k)).s : Int) ∧ Ext wb wr) (fun _ _ _ i _ => halfN l * 2 + 1 - (intOf i).toNat)
          case atStart => exact ⟨0, by omega, rfl, rfl, rfl, rfl, hE⟩
          case round =>
            clear hE
            obtain ⟨k, hk, rfl, rfl, rfl, rfl, hE⟩ := hrel
            have hbx := hb _ hE
            by_cases hlt : k < halfN l
            · have hx := (halfN_lt Hgr.out k).2 hlt
              have hle : 2 * (k : Int) + 1 < (pw (ord l) : Int) := by omega
              have hc24 : 2 * k + 1 < 2 ^ 24 := by omega
              have Hcst : Hid ((2 * (k : Int) + 1) = ((2 * k + 1 : Nat) : Int)) := Lib.hid (by push_cast; rfl)
              by_cases hq : cnt (2 * k + 1) = n
              · have Hn := Lib.hid (oddTo_yes hq)
                have Ht := Lib.hid (lsOut_snoc l (oddTo m (halfN l)) ⟨0, 0, 100⟩ (oddTo n k) (2 * k + 1))
                have hp := lsOut_s l (oddTo m (halfN l)) (oddTo n k) ⟨0, 0, 100⟩
                replace hp : (lsOut l (oddTo m (halfN l)) ⟨0, 0, 100⟩ (oddTo n k)).s ≤ 100 := hp
                generalize lsOut l (oddTo m (halfN l)) ⟨0, 0, 100⟩ (oddTo n k) = p at Ht hp ⊢
                go_wp2_with (first | (go_at_call 115; refine (l2Order_any _ _ _ (hg _ hE) (Hgr)).mono ?_; rintro e w' ⟨rfl, hE'⟩; replace hE := hE.trans hE'; clear hE') | (go_at_call 117; rw [Hcst.out]; refine (l3Bits_any _ hc24 _).mono ?_; rintro e w' ⟨rfl, rfl⟩; rw [hq]))
                clear hbx
                go_loopw [9, 10, 11, 13] (fun xv yv sv i wq => ∃ j : Nat, j ≤ halfN l ∧ i = .int .i64 (2 * (j : Int) + 1) ∧ xv = .int .i64 ((lsIn l (2 * k + 1) p (oddTo m j)).x : Int) ∧ yv = .int .i64 ((lsIn l (2 * k + 1) p (oddTo m j)).y : Int) ∧ sv = .int .i64 ((lsIn l (2 * k + 1) p (oddTo m j)).s : Int) ∧ Ext wb wq) (fun _ _ _ i _ => halfN l * 2 + 1 - (intOf i).toNat)
                case atStart => exact ⟨0, by omega, rfl, rfl, rfl, rfl, hE⟩
                case round =>
                  clear hE
                  obtain ⟨j, hj, rfl, rfl, rfl, rfl, hE⟩ := hrel
                  have hbx := hb _ hE
                  by_cases hlt2 : j < halfN l
                  · have hx2 := (halfN_lt Hgr.out j).2 hlt2
                    have hle2 : 2 * (j : Int) + 1 < (pw (ord l) : Int) := by omega
                    have hd24 : 2 * j + 1 < 2 ^ 24 := by omega
                    have Hdst : Hid ((2 * (j : Int) + 1) = ((2 * j + 1 : Nat) : Int)) := Lib.hid (by push_cast; rfl)
                    by_cases hr : cnt (2 * j + 1) = m
                    · have Hm := Lib.hid (oddTo_yes hr)
                      have Hu := Lib.hid (lsIn_snoc l (2 * k + 1) p (oddTo m j) (2 * j + 1))
                      have hs := sumF_bd Hgr.out (2 * k + 1) (2 * j + 1)
                      have hdc : Hid (cnt (sumF l (2 * k + 1) (2 * j + 1)) = prC l (2 * k + 1) (2 * j + 1)) := Lib.hid rfl
                      have hq9 := lsIn_s l (2 * k + 1) (oddTo m j) p
                      generalize lsIn l (2 * k + 1) p (oddTo m j) = q at Hu hq9 ⊢
                      by_cases hz : prC l (2 * k + 1) (2 * j + 1) < q.s
                      · have Hy := Lib.hid (lsStep_yes hz)
                        go_wp2_with (first | (go_at_call 115; refine (l2Order_any _ _ _ (hg _ hE) (Hgr)).mono ?_; rintro e w' ⟨rfl, hE'⟩; replace hE := hE.trans hE'; clear hE') | (go_at_call 117; first | (with_reducible refine (l3Bits_any _ hs _).mono ?_; rintro e w' ⟨rfl, rfl⟩; rw [hdc.out]) | (rw [Hdst.out]; with_reducible refine (l3Bits_any _ hd24 _).mono ?_; rintro e w' ⟨rfl, rfl⟩; rw [hr])) | (go_at_call 118; rw [Hcst.out, Hdst.out]; refine (l4Sum_any _ _ _ _ _ (hg _ hE) Hgr hc24 hd24).mono ?_; rintro e w' ⟨rfl, hE'⟩; replace hE := hE.trans hE'; clear hE'))
                        go_roundw
                        case rel => exact ⟨j + 1, by omega, by go_num, by rw [Hm.out, Hu.out, Hy.out]; go_num, by rw [Hm.out, Hu.out, Hy.out]; go_num, by rw [Hm.out, Hu.out, Hy.out], hE⟩
                        case measure => (simp [intOf]; omega)
                      · have Hy := Lib.hid (lsStep_no hz)
                        go_wp2_with (first | (go_at_call 115; refine (l2Order_any _ _ _ (hg _ hE) (Hgr)).mono ?_; rintro e w' ⟨rfl, hE'⟩; replace hE := hE.trans hE'; clear hE') | (go_at_call 117; first | (with_reducible refine (l3Bits_any _ hs _).mono ?_; rintro e w' ⟨rfl, rfl⟩; rw [hdc.out]) | (rw [Hdst.out]; with_reducible refine (l3Bits_any _ hd24 _).mono ?_; rintro e w' ⟨rfl, rfl⟩; rw [hr])) | (go_at_call 118; rw [Hcst.out, Hdst.out]; refine (l4Sum_any _ _ _ _ _ (hg _ hE) Hgr hc24 hd24).mono ?_; rintro e w' ⟨rfl, hE'⟩; replace hE := hE.trans hE'; clear hE'))
                        go_roundw
                        case rel => exact ⟨j + 1, by omega, by go_num, by rw [Hm.out, Hu.out, Hy.out], by rw [Hm.out, Hu.out, Hy.out], by rw [Hm.out, Hu.out, Hy.out], hE⟩
                        case measure => (simp [intOf]; omega)
                    · have Hm := Lib.hid (oddTo_no hr)
                      have hr' : ((cnt (2 * j + 1) : Int) != (m : Int)) = true := by simp; omega
                      clear hr
                      go_wp2_with (first | (go_at_call 115; refine (l2Order_any _ _ _ (hg _ hE) (Hgr)).mono ?_; rintro e w' ⟨rfl, hE'⟩; replace hE := hE.trans hE'; clear hE') | (go_at_call 117; rw [Hdst.out]; refine (l3Bits_any _ hd24 _).mono ?_; rintro e w' ⟨rfl, rfl⟩))
                      go_roundw
                      case rel => exact ⟨j + 1, by omega, by go_num, by rw [Hm.out], by rw [Hm.out], by rw [Hm.out], hE⟩
                      case measure => (simp [intOf]; omega)
                  · have hjl : j = halfN l := by omega
                    subst hjl
                    have hgt : ¬ 2 * (halfN l : Int) + 1 < (pw (ord l) : Int) := by have := (halfN_lt Hgr.out (halfN l)); omega
                    go_wp2_with (first | (go_at_call 115; refine (l2Order_any _ _ _ (hg _ hE) (Hgr)).mono ?_; rintro e w' ⟨rfl, hE'⟩; replace hE := hE.trans hE'; clear hE'))
                    go_roundw
                    case rel => exact ⟨k + 1, by omega, by go_num, by rw [Hn.out, Ht.out], by rw [Hn.out, Ht.out], by rw [Hn.out, Ht.out], hE⟩
                    case measure => (simp [intOf]; omega)
              · have Hn := Lib.hid (oddTo_no hq)
                have hq' : ((cnt (2 * k + 1) : Int) != (n : Int)) = true := by simp; omega
                clear hq
                go_wp2_with (first | (go_at_call 115; refine (l2Order_any _ _ _ (hg _ hE) (Hgr)).mono ?_; rintro e w' ⟨rfl, hE'⟩; replace hE := hE.trans hE'; clear hE') | (go_at_call 117; rw [Hcst.out]; refine (l3Bits_any _ hc24 _).mono ?_; rintro e w' ⟨rfl, rfl⟩))
                go_roundw
                case rel => exact ⟨k + 1, by omega, by go_num, by rw [Hn.out], by rw [Hn.out], by rw [Hn.out], hE⟩
                case measure => (simp [intOf]; omega)
            · have hjl : k = halfN l := by omega
              subst hjl
              have hgt : ¬ 2 * (halfN l : Int) + 1 < (pw (ord l) : Int) := by have := (halfN_lt Hgr.out (halfN l)); omega
              go_wp2_with (first | (go_at_call 115; refine (l2Order_any _ _ _ (hg _ hE) (Hgr)).mono ?_; rintro e w' ⟨rfl, hE'⟩; replace hE := hE.trans hE'; clear hE'))
              refine bodyPost_ret (v := .tuple #[.int .i64 ((lsR l n m).x : Int), .int .i64 ((lsR l n m).y : Int), .bool true]) (by simp [results, Try.results13, go_sem, lsR]) rfl ⟨by rw [Hr.out], hE0.trans hE⟩
    · have h8i : decide (8 < (ord l : Int)) = true := by simp; omega
      have Hs := Lib.hid (lsB_ord (n := n) (m := m) h8)
      go_enter Try.func13, Try.ntmps13
      go_wp2_with fail
      rw [← Hwb.out]
      go_wp2_with (first | (go_at_call 114; refine (sIsGroup_any _ _ _ (hg _ hE)).mono ?_; rintro e w' ⟨rfl, hE'⟩; replace hE := hE.trans hE'; clear hE') | (go_at_call 115; refine (l2Order_any _ _ _ (hg _ hE) (Hgr)).mono ?_; rintro e w' ⟨rfl, hE'⟩; replace hE := hE.trans hE'; clear hE'))
      refine bodyPost_ret (v := .tuple #[.int .i64 0, .int .i64 0, .bool false]) (by simp [results, Try.results13, go_sem]) rfl ⟨by rw [lsV_no Hs.out], hE0.trans hE⟩
theorem sLeastSumset_any (v : Value) (l : List Int) (n m : Int) (w : World) (h : Ints w v l) :
    Calls Try.prog 13 #[.agg #[v], .int .i64 n, .int .i64 m] w fun e w' => e = .returned (.tuple #[.int .i64 (lsX l n m), .int .i64 (lsY l n m), .bool (lsB l n m)]) ∧ Ext w w' := sLeastSumset_v v l n m w h

/-- the least size of a sum -/
def lzF (l : List Int) (n m : Int) : Int := if lsB l n m then (prC l (lsX l n m).toNat (lsY l n m).toNat : Int) else -1
theorem lzF_no {l : List Int} {n m : Int} (h : lsB l n m = false) : lzF l n m = -1 := by unfold lzF; rw [h]; rfl
theorem lzF_yes {l : List Int} {n m : Nat} (h : lsB l n m = true) : lzF l n m = (prC l (lsR l n m).x (lsR l n m).y : Int) := by
  unfold lzF; rw [(ls_yes h).1, (ls_yes h).2, h]; rfl
theorem lsR_bd {l : List Int} (h : isGrp l = true) (n m : Nat) : (lsR l n m).x < 2 ^ 24 ∧ (lsR l n m).y < 2 ^ 24 := by
  have := lsOut_bd l (B := 2 ^ 24) (S := 100) (M := oddTo m (halfN l)) (L := oddTo n (halfN l)) (by omega) (fun b hb => oddTo_bd h hb) (fun b hb => oddTo_bd h hb)
  exact ⟨this.1, this.2.1⟩
theorem LeastSize_any (v : Value) (l : List Int) (n m : Int) (w : World) (h : Ints w v l) :
    Calls Try.prog 14 #[.agg #[v], .int .i64 n, .int .i64 m] w fun e w' => e = .returned (.int .i64 (lzF l n m)) ∧ Ext w w' := by
  obtain ⟨wb, hwb⟩ : ∃ wb, wb = w.alloc (.cells #[v] 26) := ⟨_, rfl⟩
  have hE0 := (Ext.refl w).alloc (.cells #[v] 26)
  have hb := box_cell w v 26
  rw [← hwb] at hE0 hb
  have hg : ∀ W, Ext wb W → Ints W v l := fun W hW => h.ext (hE0.trans hW)
  have hE := Ext.refl wb
  have Hsz : Hid (w.heap.size + 1 = wb.heap.size) := Lib.hid (by rw [hwb]; simp [go_sem])
  have Hwb := Lib.hid hwb
  clear hwb h
  have hbx := hb wb hE
  cases hs : lsB l n m
  · have Hs := Lib.hid (lzF_no hs)
    have Hv := Lib.hid (lsV_no hs)
    go_enter Try.func14, Try.ntmps14
    go_wp2_with fail
    rw [← Hwb.out]
    refine (LeastSumset_v _ _ _ _ _ (hg _ hE)).mono ?_
    rw [Hv.out]
    rintro e w' ⟨rfl, hE'⟩
    replace hE := hE.trans hE'
    clear hE'
    replace hbx := hb _ hE
    go_wp2_with fail
    go_ret
    exact ⟨ret_int Hs.out.symm, hE0.trans hE⟩
  · obtain ⟨hgr, -, h3, h4⟩ := lsB_parts hs
    obtain ⟨n, rfl, -, -⟩ := in_nat h3
    obtain ⟨m, rfl, -, -⟩ := in_nat h4
    have Hs := Lib.hid (lzF_yes hs)
    have Hv := Lib.hid (lsV_yes hs)
    have Hgr := Lib.hid hgr
    obtain ⟨b1, b2⟩ := lsR_bd hgr n m
    clear hgr hs h3 h4
    have hsm := sumF_bd Hgr.out (lsR l n m).x (lsR l n m).y
    have hdc : Hid (cnt (sumF l (lsR l n m).x (lsR l n m).y) = prC l (lsR l n m).x (lsR l n m).y) := Lib.hid rfl
    go_enter Try.func14, Try.ntmps14
    go_wp2_with fail
    rw [← Hwb.out]
    refine (LeastSumset_v _ _ _ _ _ (hg _ hE)).mono ?_
    rw [Hv.out]
    rintro e w' ⟨rfl, hE'⟩
    replace hE := hE.trans hE'
    clear hE'
    replace hbx := hb _ hE
    go_wp2_with (first | (go_at_call 113; refine (sum_any _ _ _ _ _ (hg _ hE) (Hgr) (b1) (b2)).mono ?_; rintro e w' ⟨rfl, hE'⟩; replace hE := hE.trans hE'; clear hE') | (go_at_call 112; refine (bits_any _ hsm _).mono ?_; rintro e w' ⟨rfl, rfl⟩; rw [hdc.out]))
    go_ret
    exact ⟨ret_int Hs.out.symm, hE0.trans hE⟩
theorem sLeastSize_any (v : Value) (l : List Int) (n m : Int) (w : World) (h : Ints w v l) :
    Calls Try.prog 15 #[.agg #[v], .int .i64 n, .int .i64 m] w fun e w' => e = .returned (.int .i64 (lzF l n m)) ∧ Ext w w' := by
  obtain ⟨wb, hwb⟩ : ∃ wb, wb = w.alloc (.cells #[v] 26) := ⟨_, rfl⟩
  have hE0 := (Ext.refl w).alloc (.cells #[v] 26)
  have hb := box_cell w v 26
  rw [← hwb] at hE0 hb
  have hg : ∀ W, Ext wb W → Ints W v l := fun W hW => h.ext (hE0.trans hW)
  have hE := Ext.refl wb
  have Hsz : Hid (w.heap.size + 1 = wb.heap.size) := Lib.hid (by rw [hwb]; simp [go_sem])
  have Hwb := Lib.hid hwb
  clear hwb h
  have hbx := hb wb hE
  cases hs : lsB l n m
  · have Hs := Lib.hid (lzF_no hs)
    have Hv := Lib.hid (lsV_no hs)
    go_enter Try.func15, Try.ntmps15
    go_wp2_with fail
    rw [← Hwb.out]
    refine (sLeastSumset_v _ _ _ _ _ (hg _ hE)).mono ?_
    rw [Hv.out]
    rintro e w' ⟨rfl, hE'⟩
    replace hE := hE.trans hE'
    clear hE'
    replace hbx := hb _ hE
    go_wp2_with fail
    go_ret
    exact ⟨ret_int Hs.out.symm, hE0.trans hE⟩
  · obtain ⟨hgr, -, h3, h4⟩ := lsB_parts hs
    obtain ⟨n, rfl, -, -⟩ := in_nat h3
    obtain ⟨m, rfl, -, -⟩ := in_nat h4
    have Hs := Lib.hid (lzF_yes hs)
    have Hv := Lib.hid (lsV_yes hs)
    have Hgr := Lib.hid hgr
    obtain ⟨b1, b2⟩ := lsR_bd hgr n m
    clear hgr hs h3 h4
    have hsm := sumF_bd Hgr.out (lsR l n m).x (lsR l n m).y
    have hdc : Hid (cnt (sumF l (lsR l n m).x (lsR l n m).y) = prC l (lsR l n m).x (lsR l n m).y) := Lib.hid rfl
    go_enter Try.func15, Try.ntmps15
    go_wp2_with fail
    rw [← Hwb.out]
    refine (sLeastSumset_v _ _ _ _ _ (hg _ hE)).mono ?_
    rw [Hv.out]
    rintro e w' ⟨rfl, hE'⟩
    replace hE := hE.trans hE'
    clear hE'
    replace hbx := hb _ hE
    go_wp2_with (first | (go_at_call 118; refine (l4Sum_any _ _ _ _ _ (hg _ hE) (Hgr) (b1) (b2)).mono ?_; rintro e w' ⟨rfl, hE'⟩; replace hE := hE.trans hE'; clear hE') | (go_at_call 117; refine (l3Bits_any _ hsm _).mono ?_; rintro e w' ⟨rfl, rfl⟩; rw [hdc.out]))
    go_ret
    exact ⟨ret_int Hs.out.symm, hE0.trans hE⟩
end Go.Zz
