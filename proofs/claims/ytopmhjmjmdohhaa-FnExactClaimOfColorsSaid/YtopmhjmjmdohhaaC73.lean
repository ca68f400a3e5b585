/- LongestColoring and ClaimOfColors of both. -/
import Derived.Test.YtopmhjmjmdohhaaC72
import Derived.Test.YtopmhjmjmdohhaaC38
import Derived.Laws.EntriesVeiled
namespace Go.Zz
open Go.RowKit Go.Proofs
set_option maxHeartbeats 2000000
set_option maxRecDepth 4000

theorem sLongestColoring_any (k : Int) (w : World) :
    Calls Try.prog 32 #[.int .i64 k] w fun e w' => ∃ v', e = .returned (.tuple #[v', .bool (inB k 1 3)]) ∧ Own 3 w w' v' (colF k) ∧ Ext w w' := by
  cases hk : inB k 1 3
  · have He := Lib.hid (colF_no hk)
    have hcI := l1In_any k 1 3
    rw [hk] at hcI
    go_enter Try.func32, Try.ntmps32
    go_wp2_with (refine (hcI _).mono ?_; rintro e w1 ⟨rfl, hE1⟩; subst hE1)
    exact bodyPost_ret (v := .tuple #[.slice (some ⟨w.heap.size, 0, none⟩) 0 0, .bool false]) (by simp [results, Try.results32, go_sem]) rfl ⟨_, rfl, by rw [He.out]; exact own_made (TI := 3) (n := 0) (by omega) (Ext.refl w) [] rfl, (Ext.refl w).alloc _⟩
  · have hk2 := inB_t.1 hk
    obtain ⟨k, rfl⟩ : ∃ n : Nat, k = n := ⟨k.toNat, by omega⟩
    have He := Lib.hid (colF_nat hk)
    have hcI := l1In_any k 1 3
    rw [hk] at hcI
    have hO0 := own_made (TI := 3) (n := 0) (by omega) (Ext.refl w) [] rfl
    have hE0 := (Ext.refl w).alloc (.cells #[] 3)
    have hcL := sLong_any k (by omega) 15 [] 0 _ w _ (colT_all (by omega) (by omega)) (by omega) (by simp) hO0 hE0
    go_enter Try.func32, Try.ntmps32
    go_wp2_with (first | (go_at_call 79; refine (hcI _).mono ?_; rintro e w1 ⟨rfl, hE1⟩; subst hE1) | (go_at_call 80; refine hcL.mono ?_; rintro e w2 ⟨v2, rfl, hO2, hE2⟩))
    exact bodyPost_ret (v := .tuple #[v2, .bool true]) (by simp [results, Try.results32, go_sem]) rfl ⟨_, rfl, by rw [He.out]; exact hO2, hE0.trans hE2⟩
theorem LongestColoring_any (k : Int) (w : World) :
    Calls Try.prog 33 #[.int .i64 k] w fun e w' => ∃ v', e = .returned (.tuple #[v', .bool (inB k 1 3)]) ∧ Own 3 w w' v' (colF k) ∧ Ext w w' := by
  cases hk : inB k 1 3
  · have He := Lib.hid (colF_no hk)
    have hcI := within_any k 1 3
    rw [hk] at hcI
    have hE0 := (Ext.refl w).alloc (.cells #[.int .i64 k] 3)
    go_enter Try.func33, Try.ntmps33
    go_wp2_with (refine (hcI _).mono ?_; rintro e w1 ⟨rfl, hE1⟩; subst hE1)
    exact bodyPost_ret (v := .tuple #[.slice (some ⟨w.heap.size + 1, 0, none⟩) 0 0, .bool false]) (by simp [results, Try.results33, go_sem]) rfl ⟨_, rfl, by rw [He.out]; simpa using own_made (TI := 3) (n := 0) (by omega) hE0 [] rfl, hE0.alloc _⟩
  · have hk2 := inB_t.1 hk
    obtain ⟨k, rfl⟩ : ∃ n : Nat, k = n := ⟨k.toNat, by omega⟩
    have He := Lib.hid ((colF_nat hk).trans (colI_all (k := k) (by omega) (by omega)).symm)
    have hcI := within_any k 1 3
    rw [hk] at hcI
    have hmf : ∀ (fn : Fn) (first cap : Array Value) (w : World), (Instr.makeFunc fn first cap).run Try.prog w = .ok (.func fn first cap) w := fun _ _ _ _ => rfl
    have hE0 := (Ext.refl w).alloc (.cells #[.int .i64 k] 3)
    go_enter Try.func33, Try.ntmps33
    go_wp2_with (first | (go_at_call 81; refine (hcI _).mono ?_; rintro e w1 ⟨rfl, hE1⟩; subst hE1))
    obtain ⟨w1, h1⟩ : ∃ x, x = w.alloc (.cells #[.int .i64 (k : Int)] 3) := ⟨_, rfl⟩
    obtain ⟨w2, h2⟩ : ∃ x, x = w1.alloc (.cells #[] 3) := ⟨_, rfl⟩
    obtain ⟨w3, h3⟩ : ∃ x, x = w2.alloc (.cells #[.slice (some ⟨w.heap.size + 1, 0, none⟩) 0 0] 22) := ⟨_, rfl⟩
    obtain ⟨w4, h4⟩ : ∃ x, x = w3.alloc (.cells #[.func (.func 82) #[] #[.pointer (some ⟨w.heap.size + 1 + 1, 0, none⟩), .pointer (some ⟨w.heap.size, 0, none⟩), .pointer (some ⟨w.heap.size + 1 + 1 + 1, 0, none⟩)]] 80) := ⟨_, rfl⟩
    obtain ⟨w5, h5⟩ : ∃ x, x = w4.alloc (.cells #[] 3) := ⟨_, rfl⟩
    rw [← h1, ← h2, ← h3, ← h4, ← h5]
    have s1 : w1.heap.size = w.heap.size + 1 := by rw [h1]; simp
    have s2 : w2.heap.size = w.heap.size + 1 + 1 := by rw [h2]; simp [s1]
    have s3 : w3.heap.size = w.heap.size + 1 + 1 + 1 := by rw [h3]; simp [s2]
    have s4 : w4.heap.size = w.heap.size + 1 + 1 + 1 + 1 := by rw [h4]; simp [s3]
    have e01 : Ext w w1 := by rw [h1]; exact (Ext.refl _).alloc _
    have e12 : Ext w1 w2 := by rw [h2]; exact (Ext.refl _).alloc _
    have e23 : Ext w2 w3 := by rw [h3]; exact (Ext.refl _).alloc _
    have e34 : Ext w3 w4 := by rw [h4]; exact (Ext.refl _).alloc _
    have e45 : Ext w4 w5 := by rw [h5]; exact (Ext.refl _).alloc _
    have B1 : Blk w1 w.heap.size 3 #[.int .i64 (k : Int)] := by rw [h1]; exact Blk.new _ _ _
    have B3 : Blk w3 (w.heap.size + 1 + 1) 22 #[.slice (some ⟨w.heap.size + 1, 0, none⟩) 0 0] := by rw [h3, ← s2]; exact Blk.new _ _ _
    have B4 : Blk w4 (w.heap.size + 1 + 1 + 1) 80 #[.func (.func 82) #[] #[.pointer (some ⟨w.heap.size + 1 + 1, 0, none⟩), .pointer (some ⟨w.heap.size, 0, none⟩), .pointer (some ⟨w.heap.size + 1 + 1 + 1, 0, none⟩)]] := by rw [h4, ← s3]; exact Blk.new _ _ _
    have O2 : Own 3 w1 w2 (.slice (some ⟨w.heap.size + 1, 0, none⟩) 0 0) [] := by rw [h2, ← s1]; exact own_made (TI := 3) (n := 0) (by omega) (Ext.refl w1) [] rfl
    have O5 : Own 3 w1 w5 (.slice (some ⟨w.heap.size + 1 + 1 + 1 + 1, 0, none⟩) 0 0) [] := by rw [h5, ← s4]; exact own_made (TI := 3) (n := 0) (by omega) (e12.trans (e23.trans e34)) [] rfl
    have e35 := e34.trans e45
    refine (try_any k (by omega) (w.heap.size + 1 + 1) w.heap.size (w.heap.size + 1 + 1 + 1) (by omega) (by omega) 15 [] 0 _ w1 w5 [] _ (colT_all (by omega) (by omega)) (by omega) (by simp) O5 (by simp [Value.ownBlock] <;> omega) (B3.ext e35) (O2.ext (e23.trans e35)) (by simp [Value.ownBlock] <;> omega) (B1.ext (e12.trans (e23.trans e35))) (B4.ext e45) (by omega) (e12.trans (e23.trans e35))).mono ?_
    rintro e w6 ⟨rfl, v6, hB6, hO6, -, hG6⟩
    obtain ⟨a6, c6, rfl, -⟩ := hO6.shape
    have hx6 := hB6.cell (i := 0) (v := .slice a6 (colI 15 k [] 0 []).length c6) rfl
    have hE6 : Ext w w6 := (e01.trans (e12.trans (e23.trans e35))).grown hG6 (fun j hj => by cases hj; omega)
    go_wp2_with fail
    exact bodyPost_ret (v := .tuple #[.slice a6 (colI 15 k [] 0 []).length c6, .bool true]) (by simp [results, Try.results33, go_sem]) rfl ⟨_, rfl, by rw [He.out]; exact hO6.mono e01, hE6⟩

def ccT (k : Int) : List Int := if inB k 1 3 then colF k else []
def ccK (k : Int) : Int := if inB k 1 3 then 6 else 0
def ccN (k : Int) : Int := if inB k 1 3 then k else 0
theorem cc_no {k : Int} (h : inB k 1 3 = false) : ccT k = [] ∧ ccK k = 0 ∧ ccN k = 0 := by unfold ccT ccK ccN; rw [h]; exact ⟨rfl, rfl, rfl⟩
theorem cc_yes {k : Int} (h : inB k 1 3 = true) : ccT k = colF k ∧ ccK k = 6 ∧ ccN k = k := by unfold ccT ccK ccN; rw [h]; exact ⟨rfl, rfl, rfl⟩
theorem ccT_len (k : Int) : (ccT k).length ≤ 24 := by unfold ccT; split; exact colF_len k; simp
theorem ClaimOfColors_any (k : Int) (w : World) :
    Calls Try.prog 10 #[.int .i64 k] w fun e w' => ∃ v1 v2 v3 v4, e = .returned (.tuple #[CV (ccK k) v1 v2 0 0 0 0 v3 v4 (ccN k), .bool (inB k 1 3)]) ∧ Own4 w w' v1 v2 v3 v4 [] [] (ccT k) [] ∧ Ext w w' := by
  obtain ⟨wb, hwb⟩ : ∃ wb, wb = w := ⟨_, rfl⟩
  have hE := Ext.refl wb
  obtain ⟨wc, hwc⟩ : ∃ wc, wc = wb.alloc (.cells #[.int .i64 0, .slice none 0 0, .slice none 0 0, .int .i64 0, .int .i64 0, .int .i64 0, .int .i64 0, .slice none 0 0, .slice none 0 0, .int .i64 0] 26) := ⟨_, rfl⟩
  have hBc : Blk wc wb.heap.size 26 #[.int .i64 0, .slice none 0 0, .slice none 0 0, .int .i64 0, .int .i64 0, .int .i64 0, .int .i64 0, .slice none 0 0, .slice none 0 0, .int .i64 0] := by rw [hwc]; exact Blk.new _ _ _
  have hRc : Res wc wb.heap.size 10 := hBc.res (by simp)
  have hAc : Ext wb wc := by rw [hwc]; exact hE.alloc _
  replace hE := Ext.refl wc
  have Hsz2 : Hid (wb.heap.size + 1 = wc.heap.size) := Lib.hid (by rw [hwc]; simp [go_sem])
  have Hwc := Lib.hid hwc
  clear hwc hBc
  subst hwb
  have hwc : wb.heap.size < wc.heap.size := by have := Hsz2.out; omega
  have hcL := LongestColoring_any k wc
  cases hs : inB k 1 3
  · have Hs := Lib.hid (cc_no hs)
    rw [hs] at hcL
    go_enter Try.func10, Try.ntmps10
    go_wp2_with fail
    rw [← Hwc.out]
    refine hcL.mono ?_
    rintro e w1 ⟨v1, rfl, hO1, hE1⟩
    obtain ⟨ao1, c1, rfl, -⟩ := hO1.shape
    have hr := hRc.ext hE1
    unfold Res at hr
    go_wp2_with fail
    exact bodyPost_ret (v := .tuple #[CV 0 (.slice none 0 0) (.slice none 0 0) 0 0 0 0 (.slice none 0 0) (.slice none 0 0) 0, .bool false]) (by simp [results, Try.results10, go_sem, hr, CV]) rfl ⟨_, _, _, _, by rw [Hs.out.2.1, Hs.out.2.2], by rw [Hs.out.1]; exact ⟨Own.nil _ _ _, Own.nil _ _ _, Own.nil _ _ _, Own.nil _ _ _, Apart.nil_left _, Apart.nil_left _, Apart.nil_left _, Apart.nil_left _, Apart.nil_left _, Apart.nil_left _⟩, by (repeat (refine Ext.setCell ?_ (Nat.le_refl _) _)); exact hAc.trans hE1⟩
  · have Hs := Lib.hid (cc_yes hs)
    rw [hs] at hcL
    go_enter Try.func10, Try.ntmps10
    go_wp2_with fail
    rw [← Hwc.out]
    refine hcL.mono ?_
    rintro e w1 ⟨v1, rfl, hO1, hE1⟩
    obtain ⟨ao1, c1, rfl, -⟩ := hO1.shape
    have hr := hRc.ext hE1
    unfold Res at hr
    go_wp2_with fail
    exact bodyPost_ret (v := .tuple #[CV 6 (.slice none 0 0) (.slice none 0 0) 0 0 0 0 (.slice ao1 (colF k).length c1) (.slice none 0 0) k, .bool true]) (by simp [results, Try.results10, go_sem, hr, CV]) rfl ⟨_, _, _, _, by rw [Hs.out.2.1, Hs.out.2.2], by rw [Hs.out.1]; exact ⟨Own.nil _ _ _, Own.nil _ _ _, (show Own 3 wc _ _ _ by (repeat (refine Own.setCell_below ?_ hwc _)); exact hO1).mono hAc, Own.nil _ _ _, Apart.nil_left _, Apart.nil_left _, Apart.nil_left _, Apart.nil_left _, Apart.nil_left _, Apart.nil_right _⟩, by (repeat (refine Ext.setCell ?_ (Nat.le_refl _) _)); exact hAc.trans hE1⟩
theorem sClaimOfColors_any (k : Int) (w : World) :
    Calls Try.prog 9 #[.int .i64 k] w fun e w' => ∃ v1 v2 v3 v4, e = .returned (.tuple #[CV (ccK k) v1 v2 0 0 0 0 v3 v4 (ccN k), .bool (inB k 1 3)]) ∧ Own4 w w' v1 v2 v3 v4 [] [] (ccT k) [] ∧ Ext w w' := by
  obtain ⟨wb, hwb⟩ : ∃ wb, wb = w := ⟨_, rfl⟩
  have hE := Ext.refl wb
  obtain ⟨wc, hwc⟩ : ∃ wc, wc = wb.alloc (.cells #[.int .i64 0, .slice none 0 0, .slice none 0 0, .int .i64 0, .int .i64 0, .int .i64 0, .int .i64 0, .slice none 0 0, .slice none 0 0, .int .i64 0] 26) := ⟨_, rfl⟩
  have hBc : Blk wc wb.heap.size 26 #[.int .i64 0, .slice none 0 0, .slice none 0 0, .int .i64 0, .int .i64 0, .int .i64 0, .int .i64 0, .slice none 0 0, .slice none 0 0, .int .i64 0] := by rw [hwc]; exact Blk.new _ _ _
  have hRc : Res wc wb.heap.size 10 := hBc.res (by simp)
  have hAc : Ext wb wc := by rw [hwc]; exact hE.alloc _
  replace hE := Ext.refl wc
  have Hsz2 : Hid (wb.heap.size + 1 = wc.heap.size) := Lib.hid (by rw [hwc]; simp [go_sem])
  have Hwc := Lib.hid hwc
  clear hwc hBc
  subst hwb
  have hwc : wb.heap.size < wc.heap.size := by have := Hsz2.out; omega
  have hcL := sLongestColoring_any k wc
  cases hs : inB k 1 3
  · have Hs := Lib.hid (cc_no hs)
    rw [hs] at hcL
    go_enter Try.func9, Try.ntmps9
    go_wp2_with fail
    rw [← Hwc.out]
    refine hcL.mono ?_
    rintro e w1 ⟨v1, rfl, hO1, hE1⟩
    obtain ⟨ao1, c1, rfl, -⟩ := hO1.shape
    have hr := hRc.ext hE1
    unfold Res at hr
    go_wp2_with fail
    exact bodyPost_ret (v := .tuple #[CV 0 (.slice none 0 0) (.slice none 0 0) 0 0 0 0 (.slice none 0 0) (.slice none 0 0) 0, .bool false]) (by simp [results, Try.results9, go_sem, hr, CV]) rfl ⟨_, _, _, _, by rw [Hs.out.2.1, Hs.out.2.2], by rw [Hs.out.1]; exact ⟨Own.nil _ _ _, Own.nil _ _ _, Own.nil _ _ _, Own.nil _ _ _, Apart.nil_left _, Apart.nil_left _, Apart.nil_left _, Apart.nil_left _, Apart.nil_left _, Apart.nil_left _⟩, by (repeat (refine Ext.setCell ?_ (Nat.le_refl _) _)); exact hAc.trans hE1⟩
  · have Hs := Lib.hid (cc_yes hs)
    rw [hs] at hcL
    go_enter Try.func9, Try.ntmps9
    go_wp2_with fail
    rw [← Hwc.out]
    refine hcL.mono ?_
    rintro e w1 ⟨v1, rfl, hO1, hE1⟩
    obtain ⟨ao1, c1, rfl, -⟩ := hO1.shape
    have hr := hRc.ext hE1
    unfold Res at hr
    go_wp2_with fail
    exact bodyPost_ret (v := .tuple #[CV 6 (.slice none 0 0) (.slice none 0 0) 0 0 0 0 (.slice ao1 (colF k).length c1) (.slice none 0 0) k, .bool true]) (by simp [results, Try.results9, go_sem, hr, CV]) rfl ⟨_, _, _, _, by rw [Hs.out.2.1, Hs.out.2.2], by rw [Hs.out.1]; exact ⟨Own.nil _ _ _, Own.nil _ _ _, (show Own 3 wc _ _ _ by (repeat (refine Own.setCell_below ?_ hwc _)); exact hO1).mono hAc, Own.nil _ _ _, Apart.nil_left _, Apart.nil_left _, Apart.nil_left _, Apart.nil_left _, Apart.nil_left _, Apart.nil_right _⟩, by (repeat (refine Ext.setCell ?_ (Nat.le_refl _) _)); exact hAc.trans hE1⟩
end Go.Zz
