/- Facts of the law on edits: what is added and removed leaves all as it was. -/
import Derived.Test.YtgkojfjbfmpaaaaGr11
import Derived.Test.YtgkojfjbfmpaaaaGr13
import Derived.StillTailTactics
namespace Go.Zz
open Go.RowKit Go.Proofs

theorem tabF_tabN {l : List Int} {a : Nat} (h : isSetB l a = true) : tabF l (a : Int) (a : Int) = tabN l a a := tabF_N (by rw [h]; rfl)
theorem sub_pow {l : List Int} {x : Nat} (hx : x < ord l) : 2 ^ x < 2 ^ ord l := Nat.pow_lt_pow_right (by omega) hx
theorem andN_or {n x : Nat} (h : n.testBit x = false) : andN (n ||| 2 ^ x) (2 ^ x) = n := by
  refine Nat.eq_of_testBit_eq fun i => ?_
  rw [andN_bit, Nat.testBit_or, Nat.testBit_two_pow]
  by_cases e : x = i
  · subst e; simp [h]
  · simp [e]
theorem ed_fact {l : List Int} {n : Int} {m : List Int} {x : Int} (h : adB l n m x = true) :
    ∃ s k : Nat, n = k ∧ adS n x = s ∧ isSetB l s = true ∧ keptB l s (tabN l s s) = true ∧ tabF l s s = tabN l s s ∧
      rmB l s (tabN l s s) x = true ∧ rmS s x = k ∧ m = tabN l k k ∧ engF l s (tabN l s s) = enF l s s ∧ sukF l s (tabN l s s) = ssF l s s := by
  unfold adB at h
  simp only [Bool.and_eq_true, Bool.not_eq_true'] at h
  obtain ⟨⟨h1, h2⟩, h3⟩ := h
  unfold keptB at h1
  rw [Bool.and_eq_true, decide_eq_true_iff] at h1
  obtain ⟨k, rfl, hk, -, hg⟩ := isSetB_nat h1.1
  obtain ⟨x, rfl, hx, -⟩ := hasB_nat h2
  have hsl : k ||| 2 ^ x < 2 ^ ord l := Nat.or_lt_two_pow hk (sub_pow hx)
  have hS := isSetB_of hg hsl
  have ht := tabF_tabN hS
  have hK : keptB l ((k ||| 2 ^ x : Nat) : Int) (tabN l (k ||| 2 ^ x) (k ||| 2 ^ x)) = true := by
    unfold keptB; rw [hS, ht]; simp
  refine ⟨k ||| 2 ^ x, k, rfl, by unfold adS; simp, hS, hK, ht, ?_, ?_, ?_, ?_, ?_⟩
  · unfold rmB
    rw [hK, h2]
    simp [Nat.testBit_or, Nat.testBit_two_pow]
  · unfold rmS
    simp only [Int.toNat_natCast] at h3 ⊢
    exact andN_or h3
  · rw [h1.2, tabF_tabN h1.1]
  · rw [engF_yes hK, enF_yes (by rw [hS]; rfl)]
  · rw [sukF_yes hK, ssF_yes (by rw [hS]; rfl)]
/-- what is removed leaves a kept one -/
theorem rm_fact {l : List Int} {n : Int} {m : List Int} {x : Int} (h : rmB l n m x = true) :
    keptB l (rmS n x : Nat) (tabN l (rmS n x) (rmS n x)) = true := by
  unfold rmB at h
  simp only [Bool.and_eq_true] at h
  obtain ⟨⟨h1, h2⟩, h3⟩ := h
  unfold keptB at h1
  rw [Bool.and_eq_true, decide_eq_true_iff] at h1
  obtain ⟨k, rfl, hk, -, hg⟩ := isSetB_nat h1.1
  have hS : isSetB l (rmS (k : Int) x : Nat) = true := isSetB_of hg (andN_lt (by simpa using hk))
  unfold keptB; rw [hS, tabF_tabN hS]; simp
end Go.Zz

/- Elements that are added to kept counts and removed: the reference. -/
namespace Go.Zz
open Go.RowKit Go.Proofs
set_option maxHeartbeats 4000000
set_option maxRecDepth 20000

/-- what the literal of l30Change leaves -/
def ChgP (w0 : World) (l m : List Int) (a : Nat) (s7 : Value) (wx : World) : Prop :=
  ∃ g ao co ap cp, s7 = .pointer (some ⟨g, 0, none⟩) ∧ w0.heap.size ≤ g ∧ Blk wx g 28 #[.slice ao l.length co, .int .i64 a, .slice ap m.length cp] ∧ Own 3 w0 wx (.slice ao l.length co) l ∧ Own 3 w0 wx (.slice ap m.length cp) m ∧
    (∀ k, (Value.slice ao l.length co).ownBlock = some k → (Value.slice ap m.length cp).ownBlock ≠ some k) ∧ Ext w0 wx
theorem chg_le {l : List Int} (h : isGrp l = true) {x : Nat} {n : Int} (hn : n = 1 ∨ n = -1) {m : List Int} (hml : m.length = ord l) (hbd : ∀ i, 0 ≤ nth m i ∧ nth m i ≤ 576) {L : List Nat} (hL : L.length ≤ 24) (z : Nat) : -48 ≤ nth (chgL l x n m L) z ∧ nth (chgL l x n m L) z ≤ 624 := by
  rw [nth_chgL h x n z L m hml]
  have h1 := hbd z
  have h2 : (L.map (fun y => addF l x y)).count z ≤ 24 := Nat.le_trans List.count_le_length (by simpa using hL)
  rcases hn with rfl | rfl <;> omega
theorem l30Change_any (c : Value) (l m : List Int) (a x : Nat) (n : Int) (w : World) (h : IsK w c l a m) (Hgr : Hid (isGrp l = true)) (ha : a < 2 ^ ord l) (hx : x < ord l) (hml : m.length = ord l) (hn : n = 1 ∨ n = -1) (hbd : ∀ i, 0 ≤ nth m i ∧ nth m i ≤ 576) :
    Calls Try.prog 63 #[c, .int .i64 x, .int .i64 n] w fun e w' => ∃ ao co ap cp, e = .returned (.agg #[.slice ao l.length co, .int .i64 a, .slice ap m.length cp]) ∧ OwnK2 w w' (.agg #[.slice ao l.length co, .int .i64 a, .slice ap m.length cp]) l a (chgF l x n m (elems (andN a (2 ^ x)))) ∧ Ext w w' := by
  obtain ⟨v, u, rfl, hv, hu⟩ := h
  obtain ⟨wb, hwb⟩ : ∃ wb, wb = w.alloc (.cells #[v, .int .i64 a, u] 28) := ⟨_, rfl⟩
  have hE0 : Ext w wb := by rw [hwb]; exact (Ext.refl _).alloc _
  have B0 : Blk wb w.heap.size 28 #[v, .int .i64 a, u] := by rw [hwb]; exact Blk.new _ _ _
  have b0 : ∀ W, Ext wb W → W.cell? ⟨w.heap.size, 0, none⟩ = some v := fun W hW => (B0.ext hW).cell (i := 0) rfl
  have b1 : ∀ W, Ext wb W → W.cell? ⟨w.heap.size, 1, none⟩ = some (.int .i64 a) := fun W hW => (B0.ext hW).cell (i := 1) rfl
  have b2 : ∀ W, Ext wb W → W.cell? ⟨w.heap.size, 2, none⟩ = some u := fun W hW => (B0.ext hW).cell (i := 2) rfl
  have hE := Ext.refl wb
  have Hsz : Hid (w.heap.size + 1 = wb.heap.size) := Lib.hid (by rw [hwb]; simp [go_sem])
  have Hwb := Lib.hid hwb
  clear hwb B0
  obtain ⟨wc, hwc⟩ : ∃ wc, wc = wb.alloc (.cells #[.slice none 0 0, .int .i64 0, .slice none 0 0] 28) := ⟨_, rfl⟩
  have hBc : Blk wc wb.heap.size 28 #[.slice none 0 0, .int .i64 0, .slice none 0 0] := by rw [hwc]; exact Blk.new _ _ _
  have hRc : Res wc wb.heap.size 3 := hBc.res (by simp)
  have hAc : Ext wb wc := by rw [hwc]; exact hE.alloc _
  replace hE := Ext.refl wc
  have Hsz2 : Hid (wb.heap.size + 1 = wc.heap.size) := Lib.hid (by rw [hwc]; simp [go_sem])
  have Hwc := Lib.hid hwc
  clear hwc hBc
  have hwc : wb.heap.size < wc.heap.size := by have := Hsz2.out; omega
  have hwW : Ext w wc := hE0.trans hAc
  have hvc : Hid (∀ W, Ext wc W → Ints W v l) := Lib.hid fun W hW => hv.ext (hwW.trans hW)
  have huc : Hid (∀ W, Ext wc W → Ints W u m) := Lib.hid fun W hW => hu.ext (hwW.trans hW)
  have c0 : ∀ W, Ext wc W → W.cell? ⟨w.heap.size, 0, none⟩ = some v := fun W hW => b0 W (hAc.trans hW)
  have c1 : ∀ W, Ext wc W → W.cell? ⟨w.heap.size, 1, none⟩ = some (.int .i64 a) := fun W hW => b1 W (hAc.trans hW)
  have c2 : ∀ W, Ext wc W → W.cell? ⟨w.heap.size, 2, none⟩ = some u := fun W hW => b2 W (hAc.trans hW)
  have a24 : a < 2 ^ 24 := Nat.lt_of_lt_of_le ha (pow_ord Hgr.out)
  have hob := ord_bd Hgr.out
  have Hml := Lib.hid hml
  have Hbd := Lib.hid hbd
  have Hn := Lib.hid hn
  clear hv hu b0 b1 b2 hml hbd hn
  go_enter Try.func63, Try.ntmps63
  go_upto_region 1 with fail
  rw [← Hwb.out, ← Hwc.out]; rw [Hsz.out]
  rename World => wq
  go_cut [7] (fun s7 wx => ChgP wq l m a s7 wx)
  case first =>
    have hD := hE.drew
    go_region_held3 (fun W => Ext wq W ∧ W.cell? ⟨w.heap.size, 0, none⟩ = some v ∧ W.cell? ⟨w.heap.size, 1, none⟩ = some (.int .i64 a) ∧ W.cell? ⟨w.heap.size, 2, none⟩ = some u) (exact ⟨(by (repeat (refine Ext.setCell ?_ (by first | assumption | (simp; omega) | (simp; done)) _)); repeat (first | assumption | exact Ext.refl _ | (apply And.left; assumption) | apply Ext.drew | apply Ext.alloc)), c0 _ (by (repeat (refine Ext.setCell ?_ (by first | assumption | (simp; omega) | (simp; done)) _)); repeat (first | assumption | exact Ext.refl _ | (apply And.left; assumption) | apply Ext.drew | apply Ext.alloc)), c1 _ (by (repeat (refine Ext.setCell ?_ (by first | assumption | (simp; omega) | (simp; done)) _)); repeat (first | assumption | exact Ext.refl _ | (apply And.left; assumption) | apply Ext.drew | apply Ext.alloc)), c2 _ (by (repeat (refine Ext.setCell ?_ (by first | assumption | (simp; omega) | (simp; done)) _)); repeat (first | assumption | exact Ext.refl _ | (apply And.left; assumption) | apply Ext.drew | apply Ext.alloc))⟩) (first | (refine step_copy2 slI rfl _ _ rfl _ v l rfl rfl (by repeat (first | (with_reducible assumption) | (with_reducible exact Blk.new _ _ _) | (with_reducible refine Blk.new' ?_; simp [go_sem]; done) | (with_reducible apply Blk.alloc) | (with_reducible apply Blk.drew) | (with_reducible refine Blk.ext ?_ hXB))) (hvc.out _ (by repeat (first | assumption | exact Ext.refl _ | (apply And.left; assumption) | apply Ext.drew | apply Ext.alloc))) wq (by first | exact Nat.le_refl _ | omega) (by repeat (first | assumption | exact Ext.refl _ | (apply And.left; assumption) | apply Ext.drew | apply Ext.alloc)) ?_; intro aoA coA wA hOA hkA hXA; have hHA := Ext.trans (a := wq) (by repeat (first | assumption | exact Ext.refl _ | (apply And.left; assumption) | apply Ext.drew | apply Ext.alloc)) hXA; have hsA := hHA.size; have htA := hXA.size; (try (have hBk := Blk.ext (T := 28) (cs := #[.slice none 0 0, .int .i64 0, .slice none 0 0]) (by repeat (first | (with_reducible assumption) | (with_reducible exact Blk.new _ _ _) | (with_reducible apply Blk.alloc) | (with_reducible apply Blk.drew))) hXA; (try simp [go_sem] at hBk); have zk0 := hBk.cell (i := 0) (v := .slice none 0 0) rfl; have zk1 := hBk.cell (i := 1) (v := .int .i64 0) rfl; have zk2 := hBk.cell (i := 2) (v := .slice none 0 0) rfl; have fk0 := hBk.free 0; have fk1 := hBk.free 1; have fk2 := hBk.free 2))) | (refine step_copy2 slI rfl _ _ rfl _ u m rfl rfl (by repeat (first | (with_reducible assumption) | (with_reducible exact Blk.new _ _ _) | (with_reducible refine Blk.new' ?_; simp [go_sem]; done) | (with_reducible apply Blk.alloc) | (with_reducible apply Blk.drew) | (with_reducible refine Blk.ext ?_ hXA))) (huc.out _ (by repeat (first | assumption | exact Ext.refl _ | (apply And.left; assumption) | apply Ext.drew | apply Ext.alloc))) wq (by first | exact Nat.le_refl _ | omega) (by repeat (first | assumption | exact Ext.refl _ | (apply And.left; assumption) | apply Ext.drew | apply Ext.alloc)) ?_; intro aoB coB wB hOB hkB hXB; have hHB := Ext.trans (a := wq) (by repeat (first | assumption | exact Ext.refl _ | (apply And.left; assumption) | apply Ext.drew | apply Ext.alloc)) hXB; have hsB := hHB.size; have htB := hXB.size; (try (have hBk := Blk.ext (T := 28) (cs := #[.slice none 0 0, .int .i64 0, .slice none 0 0]) (by repeat (first | (with_reducible assumption) | (with_reducible exact Blk.new _ _ _) | (with_reducible apply Blk.alloc) | (with_reducible apply Blk.drew))) hXB; (try simp [go_sem] at hBk); have zk0 := hBk.cell (i := 0) (v := .slice none 0 0) rfl; have zk1 := hBk.cell (i := 1) (v := .int .i64 0) rfl; have zk2 := hBk.cell (i := 2) (v := .slice none 0 0) rfl; have fk0 := hBk.free 0; have fk1 := hBk.free 1; have fk2 := hBk.free 2))))
    all_goals (go_wp2_with fail; go_meet)
    all_goals
      have oA : Own 3 wq wB (.slice aoA l.length coA) l := by refine Own.ext ?_ hXB; repeat (first | exact hOA | refine Own.alloc ?_ _ | refine Own.drew ?_)
      have hap : ∀ k, (Value.slice aoA l.length coA).ownBlock = some k → (Value.slice aoB m.length coB).ownBlock ≠ some k := by
        intro k e1 e2
        have a1 := hkA k e1
        have a2 := hOA.blk k e1
        have a3 := hkB k e2
        simp [go_sem] at a1 a3 htA htB
        omega
      first
      | exact ⟨_, aoA, coA, aoB, coB, rfl, hsB, Blk.new _ _ _, oA.alloc _, hOB.alloc _, hap, hHB.alloc _⟩
      | (have nA := oA.ne_blk hBk (by decide); have nB := hOB.ne_blk hBk (by decide); exact ⟨_, aoA, coA, aoB, coB, rfl, (by omega), ((hBk.set 0 _).set 1 _).set 2 _, ((oA.setCell_ne nA _).setCell_ne nA _).setCell_ne nA _, ((hOB.setCell_ne nB _).setCell_ne nB _).setCell_ne nB _, hap, (by (repeat (refine Ext.setCell ?_ (by simp only []; omega) _)); exact hHB)⟩)
  case rest =>
    obtain ⟨g, ao, co, ap, cp, rfl, hg1, hB, hOl, hOm, hap, hEx⟩ := hcut
    obtain ⟨gS, rfl, hS1, hS2⟩ := hOm.row rfl (by rw [Hml.out]; omega)
    have Hap := Lib.hid hap
    have hpx := pw_le (show x ≤ 24 by omega)
    obtain ⟨A1, hA1⟩ : ∃ A1, A1 = a &&& pw x := ⟨_, rfl⟩
    obtain ⟨D, hD1⟩ : ∃ D, D = andN a (2 ^ x) := ⟨_, rfl⟩
    have hs1 := ishl_one (n := x) (by omega)
    have hs2 : iand (a : Int) ((pw x : Nat) : Int) = (A1 : Int) := by rw [hA1]; exact iand_nat (by omega) (by omega)
    have hw : IntKind.i64.wrap ((a : Int) - (A1 : Int)) = (D : Int) := by
      have e : (a : Int) - (A1 : Int) = (D : Int) := by have := andN_sub 24 a (2 ^ x) a24; rw [hA1, hD1, pw_eq]; omega
      rw [e]; exact IntWalk.i64_in _ (by have := andN_lt (b := 2 ^ x) a24; rw [← hD1] at this; omega)
    have hD24 : D < 2 ^ 24 := by rw [hD1]; exact andN_lt a24
    have HD1 := Lib.hid hD1
    have d0 : ∀ W, Ext wc W → W.cell? ⟨w.heap.size, 0, none⟩ = some v := fun W hW => c0 W (hEx.trans hW)
    have d1 : ∀ W, Ext wc W → W.cell? ⟨w.heap.size, 1, none⟩ = some (.int .i64 a) := fun W hW => c1 W (hEx.trans hW)
    have hgv : ∀ W, Ext wq W → Ints W v l := hvc.out
    have Hgv := Lib.hid hgv
    clear hA1 hD1 hap c1 c2 hgv hE
    go_wp2_with fail
    have hD := (Ext.refl (wc)).drew
    first | (go_region_held3 (fun W => Ext (wc) W ∧ W.cell? ⟨w.heap.size, 1, none⟩ = some (.int .i64 a)) (exact ⟨(by repeat (first | assumption | exact Ext.refl _ | (apply And.left; assumption) | apply Ext.drew | apply Ext.alloc)), d1 _ (by repeat (first | assumption | exact Ext.refl _ | (apply And.left; assumption) | apply Ext.drew | apply Ext.alloc))⟩) (first | (go_at_call 137; ((with_reducible refine Calls.mono (l3List_any D hD24 _) ?_); rintro e wH0 ⟨vL, rfl, hL, hX0⟩; have hH0 := Ext.trans (a := wc) (by repeat (first | assumption | exact Ext.refl _ | (apply And.left; assumption) | apply Ext.drew | apply Ext.alloc)) hX0)))) | (fail "the region with calls")
    replace hL := hL.mono (show Ext wc _ by repeat (first | assumption | exact Ext.refl _ | (apply And.left; assumption) | apply Ext.drew | apply Ext.alloc))
    obtain ⟨aoL, cL, rfl⟩ := hL.nshape
    have hC0 : Ext wc wH0 := by repeat (first | assumption | exact Ext.refl _ | (apply And.left; assumption) | apply Ext.drew | apply Ext.alloc)
    replace hB := hB.ext hC0
    replace hOl := hOl.ext hC0
    replace hOm := hOm.ext hC0
    have hE := hEx.trans hC0
    have hall : ∀ y ∈ elems D, y < 24 := fun y hy => elems_lt hy
    have hlen := elems_len D
    have HF : Hid (elems (andN a (2 ^ x)) = elems D) := Lib.hid (by rw [HD1.out])
    clear hX0 hH0 hD d0 d1 hs1 hs2 hw hC0
    generalize elems D = L at hL hall hlen HF ⊢
    have hn1 : -1 ≤ n ∧ n ≤ 1 := by rcases Hn.out with e | e <;> omega
    have hw2 : IntKind.i64.wrap (2 * n) = 2 * n := IntWalk.i64_in _ (by omega)
    have hixS := row_index gS m.length cp
    have hxo : x < 24 := by omega
    clear HD1 hD24
    go_wp2_with fail
    go_loopw [9] (fun i wr => ∃ k : Nat, k ≤ L.length ∧ i = .int .i64 k ∧ Own 3 wq wr (.slice (some ⟨gS, 0, none⟩) m.length cp) (chgL l x n m (L.take k)) ∧ Own 3 wq wr (.slice ao l.length co) l ∧ Own 3 wc wr (.slice aoL L.length cL) (castL L) ∧ Blk wr g 28 #[.slice ao l.length co, .int .i64 a, .slice (some ⟨gS, 0, none⟩) m.length cp] ∧ Ext wq wr) (fun i _ => L.length - (intOf i).toNat)
    case atStart => exact ⟨0, by omega, rfl, hOm, hOl, hL, hB, hE⟩
    case round =>
      clear hE hOm hOl hL hB
      obtain ⟨k, hk, rfl, hO, hOl, hL, hB, hE⟩ := hrel
      by_cases hlt : k < L.length
      · obtain ⟨gL, rfl, -, -⟩ := hL.row (castL_len L) (by omega)
        have hcL := lat_cell (hL.cellAt (castL_len L) hlt).1
        rw [castL_nth] at hcL
        have hixL := row_index gL L.length cL
        have hbx := fun U => c0 _ (hE.trans (lat_ext wr U))
        have hy24 := hall _ (nthN_mem hlt)
        have Hsn := Lib.hid (chgL_snoc l x n m (L.take k) (nthN L k))
        have Htk := Lib.hid (take_nthN L k hlt)
        have hLk : (L.take k).length ≤ 24 := by rw [List.length_take]; omega
        obtain ⟨z, hzd⟩ : ∃ z, z = addF l x (nthN L k) := ⟨_, rfl⟩
        have hzo : z < m.length := by rw [hzd, Hml.out]; exact addF_lt l (isGrp_ords Hgr.out) _ _
        have hfit := chg_le (x := x) Hgr.out Hn.out Hml.out Hbd.out hLk z
        have hT : Hid ((chgL l x n m (L.take k)).length = m.length) := Lib.hid (chgL_len l x n _ _)
        have Hzd := Lib.hid hzd
        clear hzd
        generalize chgL l x n m (L.take k) = T at hO hfit Hsn hT
        have hEb := hE
        clear hE
        have hE := Ext.refl wr
        go_wp2_with fail
        (refine wp_region_lat (wr) (by kernel_rfl) (by kernel_rfl) hE ?_); (repeat (go_big_quiet_step (first | (go_at_call 138; exact Calls.lat (l2Add_any _ _ _ _ _ ((Hgv.out _ (hEb.trans (lat_ext wr _)))) (Hgr) ((by omega)) ((by omega))))))); (refine wpQuiet_nil ?_); (intro W hE'); (replace hE := lat_of hE'); (clear hE')
        rw [← Hzd.out]
        rename World => wn
        replace hO := hO.ext hE
        replace hOl := hOl.ext hE
        replace hL := hL.ext hE
        replace hB := hB.ext hE
        replace hEb := hEb.trans hE
        obtain ⟨hzc, hzf⟩ := hO.cellAt hT.out hzo
        have hg2 := hB.cell (i := 2) (v := .slice (some ⟨gS, 0, none⟩) m.length cp) rfl
        have hw3 : IntKind.i64.wrap (nth T z + 2 * n) = nth T z + 2 * n := IntWalk.i64_in _ (by omega)
        clear hE hcL hbx hixL
        go_wp2_with fail
        go_still_tail 12, (by kernel_rfl)
        change wpList _ _ _ _ _ (World.drew _)
        obtain ⟨wd, hwd⟩ : ∃ wd, wd = World.drew wn := ⟨_, rfl⟩
        have hnd : Ext wn wd := by rw [hwd]; exact (Ext.refl _).drew
        rw [← hwd]
        clear hwd hzc hzf hg2
        replace hO := hO.ext hnd
        replace hOl := hOl.ext hnd
        replace hL := hL.ext hnd
        replace hB := hB.ext hnd
        replace hEb := hEb.trans hnd
        obtain ⟨hzc, hzf⟩ := hO.cellAt hT.out hzo
        go_wp2_with fail
        go_roundw
        case rel =>
          refine ⟨k + 1, by omega, by go_num, ?_, hOl.setCell_ne (fun e => Hap.out gS e rfl) _, hL.setCell_below hS2 _, hB.other (fun e => hO.ne_blk hB (by decide) (by rw [show g = gS from e]; rfl)) _, hEb.setCell hS1 _⟩
          rw [Htk.out, Hsn.out, ← Hzd.out]
          exact (hO.stored_grown hT.out _ _).1
        case measure => (simp [intOf]; omega)
      · have hkl : k = L.length := by omega
        subst hkl
        rw [List.take_length] at hO
        obtain ⟨z, hzd⟩ : ∃ z, z = addF l x x := ⟨_, rfl⟩
        have hzo : z < m.length := by rw [hzd, Hml.out]; exact addF_lt l (isGrp_ords Hgr.out) _ _
        have hfit := chg_le (x := x) Hgr.out Hn.out Hml.out Hbd.out hlen z
        have hT : Hid ((chgL l x n m L).length = m.length) := Lib.hid (chgL_len l x n _ _)
        have HFin : Hid (chgF l x n m L = (chgL l x n m L).set z (nth (chgL l x n m L) z + n)) := Lib.hid (by rw [hzd]; rfl)
        have HFl : Hid ((chgF l x n m L).length = m.length) := Lib.hid (chgF_len l x n m L)
        have Hzd := Lib.hid hzd
        clear hzd
        generalize chgL l x n m L = T at hO hfit hT HFin
        have hbx := c0 _ hE
        go_wp2_with fail
        refine (l2Add_any _ _ _ _ _ (Hgv.out _ hE) Hgr (by omega) (by omega)).mono ?_
        rw [← Hzd.out]
        rintro e wn ⟨rfl, hE1⟩
        replace hO := hO.ext hE1
        replace hOl := hOl.ext hE1
        replace hL := hL.ext hE1
        replace hB := hB.ext hE1
        have hEb := hE.trans hE1
        obtain ⟨hzc, hzf⟩ := hO.cellAt hT.out hzo
        have hg2 := hB.cell (i := 2) (v := .slice (some ⟨gS, 0, none⟩) m.length cp) rfl
        have hw3 : IntKind.i64.wrap (nth T z + n) = nth T z + n := IntWalk.i64_in _ (by omega)
        clear hE hE1 hbx
        go_wp2_with fail
        go_still_tail 11, (by kernel_rfl)
        change wpList _ _ _ _ _ (World.drew _)
        obtain ⟨wd, hwd⟩ : ∃ wd, wd = World.drew wn := ⟨_, rfl⟩
        have hnd : Ext wn wd := by rw [hwd]; exact (Ext.refl _).drew
        rw [← hwd]
        clear hwd hzc hzf hg2
        replace hO := hO.ext hnd
        replace hOl := hOl.ext hnd
        replace hL := hL.ext hnd
        replace hB := hB.ext hnd
        replace hEb := hEb.trans hnd
        obtain ⟨hzc, hzf⟩ := hO.cellAt hT.out hzo
        have y0 := hB.cell (i := 0) (v := .slice ao l.length co) rfl
        have y1 := hB.cell (i := 1) (v := .int .i64 a) rfl
        have y2 := hB.cell (i := 2) (v := .slice (some ⟨gS, 0, none⟩) m.length cp) rfl
        have hne : ¬ g = gS := fun e => hO.ne_blk hB (by decide) (by rw [e]; rfl)
        have hne' : ¬ gS = g := fun e => hne e.symm
        have hne2 : ¬ wb.heap.size = gS := by omega
        have hne3 : ¬ gS = wb.heap.size := by omega
        have hr := hRc.ext hEb
        unfold Res at hr
        go_wp2_with fail
        have hO2 := (hO.stored_grown hT.out z (nth T z + n)).1
        rw [← HFin.out] at hO2
        have hOl2 := hOl.setCell_ne (p := ⟨gS, z, none⟩) (fun e => Hap.out gS e rfl) (.int .i64 (nth T z + n))
        have hEf := hEb.setCell (p := ⟨gS, z, none⟩) hS1 (.int .i64 (nth T z + n))
        exact bodyPost_ret (v := .agg #[.slice ao l.length co, .int .i64 a, .slice (some ⟨gS, 0, none⟩) m.length cp]) (by simp [results, Try.results63, go_sem, hr]) rfl ⟨_, _, _, _, rfl, ⟨_, _, rfl, (((hOl2.setCell_below hwc _).setCell_below hwc _).setCell_below hwc _).mono hwW, by
            rw [HF.out]; exact (((hO2.setCell_below hwc _).setCell_below hwc _).setCell_below hwc _).mono hwW, (by
            cases hq : (Value.slice ao l.length co).ownBlock with
            | none => exact Or.inl rfl
            | some k => exact Or.inr fun e => Hap.out k hq e.symm)⟩, (by
            refine Ext.setCell (Ext.setCell (Ext.setCell (hwW.trans hEf) ?_ _) ?_ _) ?_ _ <;> (simp only []; exact Nat.le_trans (by omega) (Nat.le_of_eq Hsz.out)))⟩
end Go.Zz

/- Elements that are added to kept counts and removed: AddTo and RemoveFrom of the reference. -/
namespace Go.Zz
open Go.RowKit Go.Proofs
set_option maxHeartbeats 4000000
set_option maxRecDepth 20000

theorem bit_val {a n : Nat} (ha : a < 2 ^ 24) {b : Bool} (hb : a.testBit n = b) : iand ((shr a n : Nat) : Int) 1 = if b then 1 else 0 := by
  have h1 := shr_le a n
  rw [iand_one (by omega)]
  have : a.testBit n = decide (shr a n % 2 = 1) := by rw [Nat.testBit_eq_decide_div_mod_eq, ← Nat.shiftRight_eq_div_pow]; rfl
  rw [hb] at this
  cases b
  · have h2 := of_decide_eq_false this.symm
    have : shr a n % 2 = 0 := by omega
    rw [this]; rfl
  · have h2 := of_decide_eq_true this.symm
    rw [h2]; rfl
theorem and_pow {a x : Nat} (hb : a.testBit x = true) : a &&& 2 ^ x = 2 ^ x := by
  apply Nat.eq_of_testBit_eq
  intro i
  rw [Nat.testBit_and, Nat.testBit_two_pow]
  by_cases h : x = i
  · subst h; simp [hb]
  · simp [h]
theorem sAddTo_any (c : Value) (l m : List Int) (n x : Int) (w : World) (h : IsK w c l n m) :
    Calls Try.prog 10 #[c, .int .i64 x] w fun e w' => ∃ d, e = .returned (.tuple #[d, .bool (adB l n m x)]) ∧ OwnK2 w w' d (kvL (adB l n m x) l) (kvN (adB l n m x) (adS n x)) (kvM (adB l n m x) l (adS n x)) ∧ Ext w w' := by
  obtain ⟨v, u, rfl, hv, hu⟩ := h
  obtain ⟨wb, hwb⟩ : ∃ wb, wb = w.alloc (.cells #[v, .int .i64 n, u] 28) := ⟨_, rfl⟩
  have hE0 : Ext w wb := by rw [hwb]; exact (Ext.refl _).alloc _
  have B0 : Blk wb w.heap.size 28 #[v, .int .i64 n, u] := by rw [hwb]; exact Blk.new _ _ _
  have b0 : ∀ W, Ext wb W → W.cell? ⟨w.heap.size, 0, none⟩ = some v := fun W hW => (B0.ext hW).cell (i := 0) rfl
  have b1 : ∀ W, Ext wb W → W.cell? ⟨w.heap.size, 1, none⟩ = some (.int .i64 n) := fun W hW => (B0.ext hW).cell (i := 1) rfl
  have b2 : ∀ W, Ext wb W → W.cell? ⟨w.heap.size, 2, none⟩ = some u := fun W hW => (B0.ext hW).cell (i := 2) rfl
  have hg : ∀ W, Ext wb W → Ints W v l := fun W hW => hv.ext (hE0.trans hW)
  have hg2 : ∀ W, Ext wb W → Ints W u m := fun W hW => hu.ext (hE0.trans hW)
  have hE := Ext.refl wb
  have Hsz : Hid (w.heap.size + 1 = wb.heap.size) := Lib.hid (by rw [hwb]; simp [go_sem])
  have Hwb := Lib.hid hwb
  clear hwb hv hu B0
  obtain ⟨wc, hwc⟩ : ∃ wc, wc = wb.alloc (.cells #[.slice none 0 0, .int .i64 0, .slice none 0 0] 28) := ⟨_, rfl⟩
  have hBc : Blk wc wb.heap.size 28 #[.slice none 0 0, .int .i64 0, .slice none 0 0] := by rw [hwc]; exact Blk.new _ _ _
  have hRc : Res wc wb.heap.size 3 := hBc.res (by simp)
  have hAc : Ext wb wc := by rw [hwc]; exact hE.alloc _
  replace hE := Ext.refl wc
  have Hsz2 : Hid (wb.heap.size + 1 = wc.heap.size) := Lib.hid (by rw [hwc]; simp [go_sem])
  have Hwc := Lib.hid hwc
  clear hwc hBc
  have hwc : wb.heap.size < wc.heap.size := by have := Hsz2.out; omega
  have c0 : ∀ W, Ext wc W → W.cell? ⟨w.heap.size, 0, none⟩ = some v := fun W hW => b0 W (hAc.trans hW)
  have c1 : ∀ W, Ext wc W → W.cell? ⟨w.heap.size, 1, none⟩ = some (.int .i64 n) := fun W hW => b1 W (hAc.trans hW)
  have c2 : ∀ W, Ext wc W → W.cell? ⟨w.heap.size, 2, none⟩ = some u := fun W hW => b2 W (hAc.trans hW)
  have hgc : ∀ W, Ext wc W → Ints W v l := fun W hW => hg W (hAc.trans hW)
  have hg2c : ∀ W, Ext wc W → Ints W u m := fun W hW => hg2 W (hAc.trans hW)
  have hrr : ∀ W, Ext wc W → ∀ i, i < 3 → W.cell? ⟨wb.heap.size, i, none⟩ = some (At W ⟨wb.heap.size, i, none⟩) ∧ W.frozen? ⟨wb.heap.size, i, none⟩ = false := fun W hW => hRc.ext hW
  cases hk : keptB l n m
  · have Hv : Hid (adB l n m x = false) := Lib.hid (by unfold adB; rw [hk]; rfl)
    go_enter Try.func10, Try.ntmps10
    go_wp2_with fail
    rw [← Hwb.out, ← Hwc.out]; rw [Hsz.out]
    go_wp2_with (first | (go_at_call 25; refine (sIsKept_val _ _ _ _ _ (⟨_, _, rfl, hgc _ hE, hg2c _ hE⟩) (hk)).mono ?_; rintro e w' ⟨rfl, hE'⟩; replace hE := hE.trans hE'; clear hE'))
    exact bodyPost_ret (v := .tuple #[.agg #[.slice none 0 0, .int .i64 0, .slice none 0 0], .bool false]) (by simp [results, Try.results10, go_sem, hrr _ hE]) rfl ⟨_, by rw [Hv.out], by rw [(kv_no Hv.out l 0).1, (kv_no Hv.out l _).2.1, (kv_no Hv.out l _).2.2]; exact OwnK2.none _ _, hE0.trans (Ext.setCell (Ext.setCell (Ext.setCell (hAc.trans hE) (Nat.le_refl _) _) (Nat.le_refl _) _) (Nat.le_refl _) _)⟩
  · cases hx : hasB l x
    · have Hv : Hid (adB l n m x = false) := Lib.hid (by unfold adB; rw [hx]; simp)
      go_enter Try.func10, Try.ntmps10
      go_wp2_with fail
      rw [← Hwb.out, ← Hwc.out]; rw [Hsz.out]
      go_wp2_with (first | (go_at_call 25; refine (sIsKept_val _ _ _ _ _ (⟨_, _, rfl, hgc _ hE, hg2c _ hE⟩) (hk)).mono ?_; rintro e w' ⟨rfl, hE'⟩; replace hE := hE.trans hE'; clear hE') | (go_at_call 62; refine (l2Is_val _ _ _ _ (hgc _ hE) hx).mono ?_; rintro e w' ⟨rfl, hE'⟩; replace hE := hE.trans hE'; clear hE'))
      exact bodyPost_ret (v := .tuple #[.agg #[.slice none 0 0, .int .i64 0, .slice none 0 0], .bool false]) (by simp [results, Try.results10, go_sem, hrr _ hE]) rfl ⟨_, by rw [Hv.out], by rw [(kv_no Hv.out l 0).1, (kv_no Hv.out l _).2.1, (kv_no Hv.out l _).2.2]; exact OwnK2.none _ _, hE0.trans (Ext.setCell (Ext.setCell (Ext.setCell (hAc.trans hE) (Nat.le_refl _) _) (Nat.le_refl _) _) (Nat.le_refl _) _)⟩
    · have HB : Hid (adB l n m x = (if n.toNat.testBit x.toNat then false else true)) := Lib.hid (by unfold adB; rw [hk, hx]; cases n.toNat.testBit x.toNat <;> rfl)
      obtain ⟨a, rfl, ha1, ha2, hgr, hmt, hsa⟩ := keptB_nat hk
      obtain ⟨x, rfl, hx2, -⟩ := hasB_nat hx
      have hob := ord_bd hgr
      have HS : Hid (adS (a : Int) (x : Int) = HOr.hOr a (2 ^ x)) := Lib.hid rfl
      have Hgr := Lib.hid hgr
      have Hmt := Lib.hid hmt
      have hsh := ishr_nat (a := a) (n := x) (by omega)
      clear hgr hmt
      cases hb : a.testBit x
      all_goals
        have hbv := bit_val ha2 hb
        simp only [if_true, if_false, Bool.false_eq_true] at hbv
      rotate_left
      · have Hv : Hid (adB l a m x = false) := Lib.hid (by rw [HB.out]; simp [hb])
        go_enter Try.func10, Try.ntmps10
        go_wp2_with fail
        rw [← Hwb.out, ← Hwc.out]; rw [Hsz.out]
        go_wp2_with (first | (go_at_call 25; refine (sIsKept_val _ _ _ _ _ (⟨_, _, rfl, hgc _ hE, hg2c _ hE⟩) (hk)).mono ?_; rintro e w' ⟨rfl, hE'⟩; replace hE := hE.trans hE'; clear hE') | (go_at_call 62; refine (l2Is_val _ _ _ _ (hgc _ hE) hx).mono ?_; rintro e w' ⟨rfl, hE'⟩; replace hE := hE.trans hE'; clear hE'))
        exact bodyPost_ret (v := .tuple #[.agg #[.slice none 0 0, .int .i64 0, .slice none 0 0], .bool false]) (by simp [results, Try.results10, go_sem, hrr _ hE]) rfl ⟨_, by rw [Hv.out], by rw [(kv_no Hv.out l 0).1, (kv_no Hv.out l _).2.1, (kv_no Hv.out l _).2.2]; exact OwnK2.none _ _, hE0.trans (Ext.setCell (Ext.setCell (Ext.setCell (hAc.trans hE) (Nat.le_refl _) _) (Nat.le_refl _) _) (Nat.le_refl _) _)⟩
      · have Hv : Hid (adB l a m x = true) := Lib.hid (by rw [HB.out]; simp [hb])
        have hs1 := ishl_one (n := x) (by omega)
        have hpx := pw_le (show x ≤ 24 by omega)
        obtain ⟨s, hsd⟩ : ∃ s, s = HOr.hOr a (2 ^ x) := ⟨_, rfl⟩; have hsb : s < 2 ^ ord l := (by rw [hsd]; exact or_lt ha1 hx2); have hs2 : ior (a : Int) ((pw x : Nat) : Int) = (s : Int) := (by rw [hsd]; exact ior_pw ha2 (by omega)); have Htab : Hid (chgF l x 1 m (elems (andN a (2 ^ x))) = tabN l s s) := Lib.hid (by rw [Hmt.out, hsd, andN_none hb]; exact tab_put Hgr.out (by omega) hb); rw [← hsd] at HS; clear hsd
        rw [Hv.out, HS.out]
        have hsl : s < 2 ^ 24 := Nat.lt_of_lt_of_le hsb (pow_ord Hgr.out)
        rw [(kv_yes rfl l s).1, (kv_yes rfl l s).2.1, (kv_yes rfl l s).2.2]
        have hml : Hid (m.length = ord l) := Lib.hid (by rw [Hmt.out, tabN_len])
        have hbd : Hid (∀ i, 0 ≤ nth m i ∧ nth m i ≤ 576) := Lib.hid (fun i => by rw [Hmt.out]; exact tabN_bd Hgr.out a a i)
        go_enter Try.func10, Try.ntmps10
        go_wp2_with fail
        rw [← Hwb.out, ← Hwc.out]; rw [Hsz.out]
        go_wp2_with (first | (go_at_call 25; refine (sIsKept_val _ _ _ _ _ (⟨_, _, rfl, hgc _ hE, hg2c _ hE⟩) (hk)).mono ?_; rintro e w' ⟨rfl, hE'⟩; replace hE := hE.trans hE'; clear hE') | (go_at_call 62; refine (l2Is_val _ _ _ _ (hgc _ hE) hx).mono ?_; rintro e w' ⟨rfl, hE'⟩; replace hE := hE.trans hE'; clear hE'))
        refine (l30Change_any _ l m a x 1 _ ⟨v, u, rfl, hgc _ hE, hg2c _ hE⟩ Hgr ha1 hx2 hml.out (by decide) hbd.out).mono ?_
        rintro e w1 ⟨ao, co, ap, cp, rfl, hK, hE1⟩
        rw [Htab.out] at hK
        obtain ⟨v1, u1, e1, hO1, hO2, hd⟩ := hK
        simp only [Value.agg.injEq, Array.mk.injEq, List.cons.injEq, and_true, true_and] at e1
        obtain ⟨rfl, rfl⟩ := e1
        have hEb := hE
        have hwE : wb.heap.size < _ := Nat.lt_of_lt_of_le hwc hE.size
        have n1 := hO1.ne_of (b := w1.heap.size) (Or.inr (Nat.le_refl _))
        have n2 := hO2.ne_of (b := w1.heap.size) (Or.inr (Nat.le_refl _))
        have Hn12 := Lib.hid (And.intro n1 n2)
        have hwl : wb.heap.size < w1.heap.size := Nat.lt_of_lt_of_le hwE hE1.size
        obtain ⟨wD, hwD⟩ : ∃ wD, wD = w1.alloc (.cells #[.slice ao l.length co, .int .i64 a, .slice ap m.length cp] 28) := ⟨_, rfl⟩
        have hDx : Ext w1 wD := by rw [hwD]; exact (Ext.refl _).alloc _
        have BD : Blk wD w1.heap.size 28 #[.slice ao l.length co, .int .i64 a, .slice ap m.length cp] := by rw [hwD]; exact Blk.new _ _ _
        replace hO1 := hO1.ext hDx
        replace hO2 := hO2.ext hDx
        replace hE := hE.trans (hE1.trans hDx)
        have k1 := c1 _ hE
        rw [hwD] at k1
        have HwD := Lib.hid hwD
        have Hd := Lib.hid hd
        clear hwD hk hx hb n1 n2 hd hbv
        go_wp2_with fail
        rw [← HwD.out]
        clear k1
        have k1 := c1 _ hE
        have z0 := BD.cell (i := 0) rfl
        have z1 := BD.cell (i := 1) rfl
        have z2 := BD.cell (i := 2) rfl
        have f1 := BD.free 1
        go_still_tail 6, (by kernel_rfl)
        change wpList _ _ _ _ _ (World.drew _)
        obtain ⟨wd, hwd⟩ : ∃ wd, wd = World.drew wD := ⟨_, rfl⟩
        have hnd : Ext wD wd := by rw [hwd]; exact (Ext.refl _).drew
        rw [← hwd]
        clear hwd z0 z1 z2 f1 k1
        replace hO1 := hO1.ext hnd
        replace hO2 := hO2.ext hnd
        replace BD := BD.ext hnd
        replace hE := hE.trans hnd
        have z0 := BD.cell (i := 0) (v := .slice ao l.length co) rfl
        have z1 := BD.cell (i := 1) (v := .int .i64 a) rfl
        have z2 := BD.cell (i := 2) (v := .slice ap m.length cp) rfl
        have f1 := BD.free 1
        have hne : ¬ wb.heap.size = w1.heap.size := by omega
        have hne' : ¬ w1.heap.size = wb.heap.size := by omega
        have hr := hrr _ hE
        go_wp2_with fail
        exact bodyPost_ret (v := .tuple #[.agg #[.slice ao l.length co, .int .i64 s, .slice ap m.length cp], .bool true]) (by simp [results, Try.results10, go_sem, hr]) rfl ⟨_, rfl, ⟨_, _, rfl,
          (show Own 3 _ _ _ _ by (repeat (first | refine Own.setCell_below ?_ hwE _ | refine Own.setCell_ne ?_ Hn12.out.1 _)); exact hO1).mono (hE0.trans (hAc.trans hEb)),
          (show Own 3 _ _ _ _ by (repeat (first | refine Own.setCell_below ?_ hwE _ | refine Own.setCell_ne ?_ Hn12.out.2 _)); exact hO2).mono (hE0.trans (hAc.trans hEb)), Hd.out⟩,
          hE0.trans (by (repeat (refine Ext.setCell ?_ (by first | exact Nat.le_refl _ | (simp only []; omega)) _)); exact hAc.trans hE)⟩
theorem sRemoveFrom_any (c : Value) (l m : List Int) (n x : Int) (w : World) (h : IsK w c l n m) :
    Calls Try.prog 20 #[c, .int .i64 x] w fun e w' => ∃ d, e = .returned (.tuple #[d, .bool (rmB l n m x)]) ∧ OwnK2 w w' d (kvL (rmB l n m x) l) (kvN (rmB l n m x) (rmS n x)) (kvM (rmB l n m x) l (rmS n x)) ∧ Ext w w' := by
  obtain ⟨v, u, rfl, hv, hu⟩ := h
  obtain ⟨wb, hwb⟩ : ∃ wb, wb = w.alloc (.cells #[v, .int .i64 n, u] 28) := ⟨_, rfl⟩
  have hE0 : Ext w wb := by rw [hwb]; exact (Ext.refl _).alloc _
  have B0 : Blk wb w.heap.size 28 #[v, .int .i64 n, u] := by rw [hwb]; exact Blk.new _ _ _
  have b0 : ∀ W, Ext wb W → W.cell? ⟨w.heap.size, 0, none⟩ = some v := fun W hW => (B0.ext hW).cell (i := 0) rfl
  have b1 : ∀ W, Ext wb W → W.cell? ⟨w.heap.size, 1, none⟩ = some (.int .i64 n) := fun W hW => (B0.ext hW).cell (i := 1) rfl
  have b2 : ∀ W, Ext wb W → W.cell? ⟨w.heap.size, 2, none⟩ = some u := fun W hW => (B0.ext hW).cell (i := 2) rfl
  have hg : ∀ W, Ext wb W → Ints W v l := fun W hW => hv.ext (hE0.trans hW)
  have hg2 : ∀ W, Ext wb W → Ints W u m := fun W hW => hu.ext (hE0.trans hW)
  have hE := Ext.refl wb
  have Hsz : Hid (w.heap.size + 1 = wb.heap.size) := Lib.hid (by rw [hwb]; simp [go_sem])
  have Hwb := Lib.hid hwb
  clear hwb hv hu B0
  obtain ⟨wc, hwc⟩ : ∃ wc, wc = wb.alloc (.cells #[.slice none 0 0, .int .i64 0, .slice none 0 0] 28) := ⟨_, rfl⟩
  have hBc : Blk wc wb.heap.size 28 #[.slice none 0 0, .int .i64 0, .slice none 0 0] := by rw [hwc]; exact Blk.new _ _ _
  have hRc : Res wc wb.heap.size 3 := hBc.res (by simp)
  have hAc : Ext wb wc := by rw [hwc]; exact hE.alloc _
  replace hE := Ext.refl wc
  have Hsz2 : Hid (wb.heap.size + 1 = wc.heap.size) := Lib.hid (by rw [hwc]; simp [go_sem])
  have Hwc := Lib.hid hwc
  clear hwc hBc
  have hwc : wb.heap.size < wc.heap.size := by have := Hsz2.out; omega
  have c0 : ∀ W, Ext wc W → W.cell? ⟨w.heap.size, 0, none⟩ = some v := fun W hW => b0 W (hAc.trans hW)
  have c1 : ∀ W, Ext wc W → W.cell? ⟨w.heap.size, 1, none⟩ = some (.int .i64 n) := fun W hW => b1 W (hAc.trans hW)
  have c2 : ∀ W, Ext wc W → W.cell? ⟨w.heap.size, 2, none⟩ = some u := fun W hW => b2 W (hAc.trans hW)
  have hgc : ∀ W, Ext wc W → Ints W v l := fun W hW => hg W (hAc.trans hW)
  have hg2c : ∀ W, Ext wc W → Ints W u m := fun W hW => hg2 W (hAc.trans hW)
  have hrr : ∀ W, Ext wc W → ∀ i, i < 3 → W.cell? ⟨wb.heap.size, i, none⟩ = some (At W ⟨wb.heap.size, i, none⟩) ∧ W.frozen? ⟨wb.heap.size, i, none⟩ = false := fun W hW => hRc.ext hW
  cases hk : keptB l n m
  · have Hv : Hid (rmB l n m x = false) := Lib.hid (by unfold rmB; rw [hk]; rfl)
    go_enter Try.func20, Try.ntmps20
    go_wp2_with fail
    rw [← Hwb.out, ← Hwc.out]; rw [Hsz.out]
    go_wp2_with (first | (go_at_call 25; refine (sIsKept_val _ _ _ _ _ (⟨_, _, rfl, hgc _ hE, hg2c _ hE⟩) (hk)).mono ?_; rintro e w' ⟨rfl, hE'⟩; replace hE := hE.trans hE'; clear hE'))
    exact bodyPost_ret (v := .tuple #[.agg #[.slice none 0 0, .int .i64 0, .slice none 0 0], .bool false]) (by simp [results, Try.results20, go_sem, hrr _ hE]) rfl ⟨_, by rw [Hv.out], by rw [(kv_no Hv.out l 0).1, (kv_no Hv.out l _).2.1, (kv_no Hv.out l _).2.2]; exact OwnK2.none _ _, hE0.trans (Ext.setCell (Ext.setCell (Ext.setCell (hAc.trans hE) (Nat.le_refl _) _) (Nat.le_refl _) _) (Nat.le_refl _) _)⟩
  · cases hx : hasB l x
    · have Hv : Hid (rmB l n m x = false) := Lib.hid (by unfold rmB; rw [hx]; simp)
      go_enter Try.func20, Try.ntmps20
      go_wp2_with fail
      rw [← Hwb.out, ← Hwc.out]; rw [Hsz.out]
      go_wp2_with (first | (go_at_call 25; refine (sIsKept_val _ _ _ _ _ (⟨_, _, rfl, hgc _ hE, hg2c _ hE⟩) (hk)).mono ?_; rintro e w' ⟨rfl, hE'⟩; replace hE := hE.trans hE'; clear hE') | (go_at_call 62; refine (l2Is_val _ _ _ _ (hgc _ hE) hx).mono ?_; rintro e w' ⟨rfl, hE'⟩; replace hE := hE.trans hE'; clear hE'))
      exact bodyPost_ret (v := .tuple #[.agg #[.slice none 0 0, .int .i64 0, .slice none 0 0], .bool false]) (by simp [results, Try.results20, go_sem, hrr _ hE]) rfl ⟨_, by rw [Hv.out], by rw [(kv_no Hv.out l 0).1, (kv_no Hv.out l _).2.1, (kv_no Hv.out l _).2.2]; exact OwnK2.none _ _, hE0.trans (Ext.setCell (Ext.setCell (Ext.setCell (hAc.trans hE) (Nat.le_refl _) _) (Nat.le_refl _) _) (Nat.le_refl _) _)⟩
    · have HB : Hid (rmB l n m x = (if n.toNat.testBit x.toNat then true else false)) := Lib.hid (by unfold rmB; rw [hk, hx]; cases n.toNat.testBit x.toNat <;> rfl)
      obtain ⟨a, rfl, ha1, ha2, hgr, hmt, hsa⟩ := keptB_nat hk
      obtain ⟨x, rfl, hx2, -⟩ := hasB_nat hx
      have hob := ord_bd hgr
      have HS : Hid (rmS (a : Int) (x : Int) = andN a (2 ^ x)) := Lib.hid rfl
      have Hgr := Lib.hid hgr
      have Hmt := Lib.hid hmt
      have hsh := ishr_nat (a := a) (n := x) (by omega)
      clear hgr hmt
      cases hb : a.testBit x
      all_goals
        have hbv := bit_val ha2 hb
        simp only [if_true, if_false, Bool.false_eq_true] at hbv
      skip
      · have Hv : Hid (rmB l a m x = false) := Lib.hid (by rw [HB.out]; simp [hb])
        go_enter Try.func20, Try.ntmps20
        go_wp2_with fail
        rw [← Hwb.out, ← Hwc.out]; rw [Hsz.out]
        go_wp2_with (first | (go_at_call 25; refine (sIsKept_val _ _ _ _ _ (⟨_, _, rfl, hgc _ hE, hg2c _ hE⟩) (hk)).mono ?_; rintro e w' ⟨rfl, hE'⟩; replace hE := hE.trans hE'; clear hE') | (go_at_call 62; refine (l2Is_val _ _ _ _ (hgc _ hE) hx).mono ?_; rintro e w' ⟨rfl, hE'⟩; replace hE := hE.trans hE'; clear hE'))
        exact bodyPost_ret (v := .tuple #[.agg #[.slice none 0 0, .int .i64 0, .slice none 0 0], .bool false]) (by simp [results, Try.results20, go_sem, hrr _ hE]) rfl ⟨_, by rw [Hv.out], by rw [(kv_no Hv.out l 0).1, (kv_no Hv.out l _).2.1, (kv_no Hv.out l _).2.2]; exact OwnK2.none _ _, hE0.trans (Ext.setCell (Ext.setCell (Ext.setCell (hAc.trans hE) (Nat.le_refl _) _) (Nat.le_refl _) _) (Nat.le_refl _) _)⟩
      · have Hv : Hid (rmB l a m x = true) := Lib.hid (by rw [HB.out]; simp [hb])
        have hs1 := ishl_one (n := x) (by omega)
        have hpx := pw_le (show x ≤ 24 by omega)
        obtain ⟨s, hsd⟩ : ∃ s, s = andN a (2 ^ x) := ⟨_, rfl⟩; have hsb : s < 2 ^ ord l := (by rw [hsd]; exact andN_lt ha1); have hs2 : IntKind.i64.wrap ((a : Int) - ((pw x : Nat) : Int)) = (s : Int) := (by have e : (a : Int) - ((pw x : Nat) : Int) = (s : Int) := (by have h1 := andN_sub 24 a (2 ^ x) ha2; have h2 : a &&& 2 ^ x = 2 ^ x := and_pow hb; rw [h2] at h1; rw [hsd, pw_eq]; omega); rw [e]; exact IntWalk.i64_in _ (by have := andN_lt (b := 2 ^ x) ha2; omega)); have Htab : Hid (chgF l x (-1) m (elems (andN a (2 ^ x))) = tabN l s s) := Lib.hid (by rw [Hmt.out, hsd]; exact tab_take Hgr.out (by omega) hb); rw [← hsd] at HS; clear hsd
        rw [Hv.out, HS.out]
        have hsl : s < 2 ^ 24 := Nat.lt_of_lt_of_le hsb (pow_ord Hgr.out)
        rw [(kv_yes rfl l s).1, (kv_yes rfl l s).2.1, (kv_yes rfl l s).2.2]
        have hml : Hid (m.length = ord l) := Lib.hid (by rw [Hmt.out, tabN_len])
        have hbd : Hid (∀ i, 0 ≤ nth m i ∧ nth m i ≤ 576) := Lib.hid (fun i => by rw [Hmt.out]; exact tabN_bd Hgr.out a a i)
        go_enter Try.func20, Try.ntmps20
        go_wp2_with fail
        rw [← Hwb.out, ← Hwc.out]; rw [Hsz.out]
        go_wp2_with (first | (go_at_call 25; refine (sIsKept_val _ _ _ _ _ (⟨_, _, rfl, hgc _ hE, hg2c _ hE⟩) (hk)).mono ?_; rintro e w' ⟨rfl, hE'⟩; replace hE := hE.trans hE'; clear hE') | (go_at_call 62; refine (l2Is_val _ _ _ _ (hgc _ hE) hx).mono ?_; rintro e w' ⟨rfl, hE'⟩; replace hE := hE.trans hE'; clear hE'))
        refine (l30Change_any _ l m a x (-1) _ ⟨v, u, rfl, hgc _ hE, hg2c _ hE⟩ Hgr ha1 hx2 hml.out (by decide) hbd.out).mono ?_
        rintro e w1 ⟨ao, co, ap, cp, rfl, hK, hE1⟩
        rw [Htab.out] at hK
        obtain ⟨v1, u1, e1, hO1, hO2, hd⟩ := hK
        simp only [Value.agg.injEq, Array.mk.injEq, List.cons.injEq, and_true, true_and] at e1
        obtain ⟨rfl, rfl⟩ := e1
        have hEb := hE
        have hwE : wb.heap.size < _ := Nat.lt_of_lt_of_le hwc hE.size
        have n1 := hO1.ne_of (b := w1.heap.size) (Or.inr (Nat.le_refl _))
        have n2 := hO2.ne_of (b := w1.heap.size) (Or.inr (Nat.le_refl _))
        have Hn12 := Lib.hid (And.intro n1 n2)
        have hwl : wb.heap.size < w1.heap.size := Nat.lt_of_lt_of_le hwE hE1.size
        obtain ⟨wD, hwD⟩ : ∃ wD, wD = w1.alloc (.cells #[.slice ao l.length co, .int .i64 a, .slice ap m.length cp] 28) := ⟨_, rfl⟩
        have hDx : Ext w1 wD := by rw [hwD]; exact (Ext.refl _).alloc _
        have BD : Blk wD w1.heap.size 28 #[.slice ao l.length co, .int .i64 a, .slice ap m.length cp] := by rw [hwD]; exact Blk.new _ _ _
        replace hO1 := hO1.ext hDx
        replace hO2 := hO2.ext hDx
        replace hE := hE.trans (hE1.trans hDx)
        have k1 := c1 _ hE
        rw [hwD] at k1
        have HwD := Lib.hid hwD
        have Hd := Lib.hid hd
        clear hwD hk hx hb n1 n2 hd hbv
        go_wp2_with fail
        rw [← HwD.out]
        clear k1
        have k1 := c1 _ hE
        have z0 := BD.cell (i := 0) rfl
        have z1 := BD.cell (i := 1) rfl
        have z2 := BD.cell (i := 2) rfl
        have f1 := BD.free 1
        go_still_tail 6, (by kernel_rfl)
        change wpList _ _ _ _ _ (World.drew _)
        obtain ⟨wd, hwd⟩ : ∃ wd, wd = World.drew wD := ⟨_, rfl⟩
        have hnd : Ext wD wd := by rw [hwd]; exact (Ext.refl _).drew
        rw [← hwd]
        clear hwd z0 z1 z2 f1 k1
        replace hO1 := hO1.ext hnd
        replace hO2 := hO2.ext hnd
        replace BD := BD.ext hnd
        replace hE := hE.trans hnd
        have z0 := BD.cell (i := 0) (v := .slice ao l.length co) rfl
        have z1 := BD.cell (i := 1) (v := .int .i64 a) rfl
        have z2 := BD.cell (i := 2) (v := .slice ap m.length cp) rfl
        have f1 := BD.free 1
        have hne : ¬ wb.heap.size = w1.heap.size := by omega
        have hne' : ¬ w1.heap.size = wb.heap.size := by omega
        have hr := hrr _ hE
        go_wp2_with fail
        exact bodyPost_ret (v := .tuple #[.agg #[.slice ao l.length co, .int .i64 s, .slice ap m.length cp], .bool true]) (by simp [results, Try.results20, go_sem, hr]) rfl ⟨_, rfl, ⟨_, _, rfl,
          (show Own 3 _ _ _ _ by (repeat (first | refine Own.setCell_below ?_ hwE _ | refine Own.setCell_ne ?_ Hn12.out.1 _)); exact hO1).mono (hE0.trans (hAc.trans hEb)),
          (show Own 3 _ _ _ _ by (repeat (first | refine Own.setCell_below ?_ hwE _ | refine Own.setCell_ne ?_ Hn12.out.2 _)); exact hO2).mono (hE0.trans (hAc.trans hEb)), Hd.out⟩,
          hE0.trans (by (repeat (refine Ext.setCell ?_ (by first | exact Nat.le_refl _ | (simp only []; omega)) _)); exact hAc.trans hE)⟩
end Go.Zz

/- Energies of the reference. -/
namespace Go.Zz
open Go.RowKit Go.Proofs
set_option maxHeartbeats 1000000
set_option maxRecDepth 4000

theorem sEnergyOf_any (v : Value) (l : List Int) (a b : Int) (w : World) (h : Ints w v l) :
    Calls Try.prog 16 #[.agg #[v], .int .i64 a, .int .i64 b] w fun e w' => e = .returned (.int .i64 (enF l a b)) ∧ Ext w w' := by
  obtain ⟨wb, hwb⟩ : ∃ wb, wb = w.alloc (.cells #[v] 26) := ⟨_, rfl⟩
  have hE0 := (Ext.refl w).alloc (.cells #[v] 26)
  have hb := box_cell w v 26
  rw [← hwb] at hE0 hb
  have hg : ∀ W, Ext wb W → Ints W v l := fun W hW => h.ext (hE0.trans hW)
  have hE := Ext.refl wb
  have Hsz : Hid (w.heap.size + 1 = wb.heap.size) := Lib.hid (by rw [hwb]; simp [go_sem])
  have Hwb := Lib.hid hwb
  clear hwb h
  cases hs : (isSetB l a && isSetB l b)
  · have Hs := Lib.hid (enF_no hs)
    have Ht : Hid (tabF l a b = []) := Lib.hid (by unfold tabF; rw [hs]; rfl)
    clear hs
    go_enter Try.func16, Try.ntmps16
    go_wp2_with fail
    rw [← Hwb.out]
    refine (sSumTable_any _ _ _ _ _ (hg _ hE)).mono ?_
    rw [Ht.out]
    rintro e w1 ⟨v1, rfl, hL, hE1⟩
    obtain ⟨ao, c, rfl, -⟩ := hL.shape
    rw [show ([] : List Int).length = 0 from rfl] at hL ⊢
    go_wp2_with fail
    go_ret
    exact ⟨ret_int Hs.out.symm, hE0.trans (hE.trans hE1)⟩
  · obtain ⟨h1, h2⟩ := Bool.and_eq_true_iff.1 hs
    obtain ⟨a, rfl, -, ha, hgr⟩ := isSetB_nat h1
    obtain ⟨b, rfl, -, hb', -⟩ := isSetB_nat h2
    have Hs := Lib.hid (enF_yes hs)
    have Ht := Lib.hid (tabF_N hs)
    have Hgr := Lib.hid hgr
    have hob := ord_bd hgr
    have hne : (((ord l : Nat) : Int) == 0) = false := by rw [beq_eq_false_iff_ne]; omega
    clear hs hgr h1 h2
    go_enter Try.func16, Try.ntmps16
    go_wp2_with fail
    rw [← Hwb.out]
    refine (sSumTable_any _ _ _ _ _ (hg _ hE)).mono ?_
    rw [Ht.out]
    rintro e w1 ⟨v1, rfl, hL, hE1⟩
    have hLs := hL.ints
    obtain ⟨ao, c, adr, rfl, hlen, hadr, hcell⟩ := hLs.op
    have hix := ints_index (c := c) elI szI hadr
    rw [tabN_len] at hcell hlen hix ⊢
    clear hadr hL hLs
    have hEb := hE.trans hE1
    clear hE hE1
    have hE := Ext.refl w1
    go_wp2_with fail
    go_loopw [8, 9] (fun nv i wr => ∃ k : Nat, k ≤ ord l ∧ i = .int .i64 k ∧ nv = .int .i64 (sqTo (tabN l a b) k) ∧ Ext w1 wr) (fun _ i _ => ord l - (intOf i).toNat)
    case atStart => exact ⟨0, by omega, rfl, rfl, hE⟩
    case round =>
      clear hE
      obtain ⟨k, hk, rfl, rfl, hE⟩ := hrel
      by_cases hlt : k < ord l
      · have hck := fun U => hcell k _ hlt (lat_ext w1 U)
        have hsq := Lib.hid (sqTo_succ (tabN l a b) k)
        have hb1 := sqTo_bd Hgr.out a b k
        obtain ⟨hb2, hb3⟩ := tabN_bd Hgr.out a b k
        obtain ⟨hb4, hb5⟩ := sq_bd hb2 hb3
        go_wp2_with fail
        (refine wp_region_lat (w1) (by kernel_rfl) (by kernel_rfl) hE ?_); (repeat (go_big_quiet_step (first | fail))); (refine wpQuiet_nil ?_); (intro W hE'); (replace hE := lat_of hE'); (clear hE')
        go_wp2_with fail
        go_roundw
        case rel => exact ⟨k + 1, by omega, by go_num, by rw [hsq.out], hE⟩
        case measure => (simp [intOf]; omega)
      · have hkl : k = ord l := by omega
        subst hkl
        go_wp2_with fail
        go_ret
        exact ⟨ret_int (by rw [Hs.out]), hE0.trans (hEb.trans hE)⟩
end Go.Zz
