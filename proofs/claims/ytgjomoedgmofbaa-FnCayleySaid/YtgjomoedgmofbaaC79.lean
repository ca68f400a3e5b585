/- first and LargestClique of the program. -/
import Derived.Test.YtgjomoedgmofbaaC78
namespace Go.Zz
open Go.RowKit Go.Proofs
set_option maxHeartbeats 2000000
set_option maxRecDepth 4000

theorem firstCl_fn (v : Value) (l : List Int) (P : Nat → Bool) (Hgr : Hid (isGrp l = true)) (w : World) (h : Ints w v l) (p1 p2 : Value)
    (HP : ∀ W b, Ext w W → b < 2 ^ 24 → Calls Try.prog 168 #[.int .i64 (b : Nat), p1, p2] W fun e w' => e = .returned (.bool (P b)) ∧ Ext W w') :
    Calls Try.prog 167 #[.agg #[v], .func (.func 168) #[] #[p1, p2]] w fun e w' => ∃ c, e = .returned (.tuple #[.int .i64 (fsS P (ord l) (ord l + 1) 0 0 : Nat), .int .i64 c]) ∧ Ext w w' := by
  have hob := ord_bd Hgr.out
  have hmf : ∀ (fn : Fn) (first cap : Array Value) (w : World), (Instr.makeFunc fn first cap).run Try.prog w = .ok (.func fn first cap) w := fun _ _ _ _ => rfl
  have He := Lib.hid (fsI_eq P (ord l) hob.2 (ord l + 1) 0 0 (0, -1) (by simp) (by omega))
  have HH := Lib.hid h
  have HPP := Lib.hid HP
  clear h HP
  go_enter Try.func167, Try.ntmps167
  go_wp2_with fail
  obtain ⟨w1, h1⟩ : ∃ x, x = w.alloc (.cells #[v] 26) := ⟨_, rfl⟩
  obtain ⟨w2, h2⟩ : ∃ x, x = w1.alloc (.cells #[.func (.func 168) #[] #[p1, p2]] 96) := ⟨_, rfl⟩
  obtain ⟨w3, h3⟩ : ∃ x, x = w2.alloc (.cells #[.int .i64 0] 3) := ⟨_, rfl⟩
  obtain ⟨w4, h4⟩ : ∃ x, x = w3.alloc (.cells #[.int .i64 (-1)] 3) := ⟨_, rfl⟩
  obtain ⟨w5, h5⟩ : ∃ x, x = w4.alloc (.cells #[.int .i64 0] 3) := ⟨_, rfl⟩
  obtain ⟨w6, h6⟩ : ∃ x, x = w5.alloc (.cells #[.func (.func 227) #[] #[.pointer (some ⟨w.heap.size + 1 + 1 + 1 + 1, 0, none⟩), .pointer (some ⟨w.heap.size + 1 + 1 + 1, 0, none⟩), .pointer (some ⟨w.heap.size + 1 + 1, 0, none⟩), .pointer (some ⟨w.heap.size, 0, none⟩), .pointer (some ⟨w.heap.size + 1, 0, none⟩), .pointer (some ⟨w.heap.size + 1 + 1 + 1 + 1 + 1, 0, none⟩)]] 123) := ⟨_, rfl⟩
  rw [← h1, ← h2, ← h3, ← h4, ← h5, ← h6]
  have s1 : w1.heap.size = w.heap.size + 1 := by rw [h1]; simp
  have s2 : w2.heap.size = w.heap.size + 1 + 1 := by rw [h2]; simp [s1]
  have s3 : w3.heap.size = w.heap.size + 1 + 1 + 1 := by rw [h3]; simp [s2]
  have s4 : w4.heap.size = w.heap.size + 1 + 1 + 1 + 1 := by rw [h4]; simp [s3]
  have s5 : w5.heap.size = w.heap.size + 1 + 1 + 1 + 1 + 1 := by rw [h5]; simp [s4]
  have e01 : Ext w w1 := by rw [h1]; exact (Ext.refl _).alloc _
  have e12 : Ext w1 w2 := by rw [h2]; exact (Ext.refl _).alloc _
  have e23 : Ext w2 w3 := by rw [h3]; exact (Ext.refl _).alloc _
  have e34 : Ext w3 w4 := by rw [h4]; exact (Ext.refl _).alloc _
  have e45 : Ext w4 w5 := by rw [h5]; exact (Ext.refl _).alloc _
  have e56 : Ext w5 w6 := by rw [h6]; exact (Ext.refl _).alloc _
  have B1 : Blk w1 w.heap.size 26 #[v] := by rw [h1]; exact Blk.new _ _ _
  have B2 : Blk w2 (w.heap.size + 1) 96 #[.func (.func 168) #[] #[p1, p2]] := by rw [h2, ← s1]; exact Blk.new _ _ _
  have B3 : Blk w3 (w.heap.size + 1 + 1) 3 #[.int .i64 ((0 : Nat) : Int)] := by rw [h3, ← s2]; exact Blk.new _ _ _
  have B4 : Blk w4 (w.heap.size + 1 + 1 + 1) 3 #[.int .i64 (-1)] := by rw [h4, ← s3]; exact Blk.new _ _ _
  have B5 : Blk w5 (w.heap.size + 1 + 1 + 1 + 1) 3 #[.int .i64 0] := by rw [h5, ← s4]; exact Blk.new _ _ _
  have B6 : Blk w6 (w.heap.size + 1 + 1 + 1 + 1 + 1) 123 #[.func (.func 227) #[] #[.pointer (some ⟨w.heap.size + 1 + 1 + 1 + 1, 0, none⟩), .pointer (some ⟨w.heap.size + 1 + 1 + 1, 0, none⟩), .pointer (some ⟨w.heap.size + 1 + 1, 0, none⟩), .pointer (some ⟨w.heap.size, 0, none⟩), .pointer (some ⟨w.heap.size + 1, 0, none⟩), .pointer (some ⟨w.heap.size + 1 + 1 + 1 + 1 + 1, 0, none⟩)]] := by rw [h6, ← s5]; exact Blk.new _ _ _
  have e02 := e01.trans e12
  have e26 := e23.trans (e34.trans (e45.trans e56))
  refine (firstCl_any v l P Hgr w2 (w.heap.size + 1 + 1 + 1 + 1) (w.heap.size + 1 + 1 + 1) (w.heap.size + 1 + 1) w.heap.size (w.heap.size + 1) (w.heap.size + 1 + 1 + 1 + 1 + 1) (by omega) (by omega) (by omega) (by omega) (by omega) (by omega) (by omega) (by omega) (by omega) p1 p2 (fun W hW => ((B1.ext e12).ext hW).cell (i := 0) rfl) (fun W hW => (B2.ext hW).cell (i := 0) rfl) (Lib.hid fun W hW => HH.out.ext (e02.trans hW)) (fun W b hW hb => HPP.out W b (e02.trans hW) hb) (ord l + 1) 0 0 0 w6 (0, -1) 0 (by omega) (by omega) (by decide) (by omega) (by simp) (by simp) e26 (B3.ext (e34.trans (e45.trans e56))) (B4.ext (e45.trans e56)) (B5.ext e56) B6).mono ?_
  rintro e w7 ⟨rfl, c7, hB7, hS7, hC7, hF7, -, -⟩
  have hc0 : (cnt 0) = 0 := cnt_zero
  have hfin : (fsI P (ord l) (ord l + 1) 0 0 0 (0, -1)).1 = fsS P (ord l) (ord l + 1) 0 0 := by
    have := He.out
    rw [hc0] at this
    rw [this, if_pos (by show (-1 : Int) < _; omega)]
  rw [hfin] at hB7
  have hx7 := hB7.cell (i := 0) (v := .int .i64 (fsS P (ord l) (ord l + 1) 0 0 : Nat)) rfl
  have hy7 := hC7.cell (i := 0) (v := .int .i64 c7) rfl
  have hE7 : Ext w w7 := hF7.ext (e02.trans e26) (by rintro k (rfl | rfl | rfl) <;> omega)
  have kx := fun U => cell_in hx7 _ (lat_ext w7 U)
  have ky := fun U => cell_in hy7 _ (lat_ext w7 U)
  have hE := Ext.refl w7
  clear hfin hc0 hx7 hy7 s1 s2 s3 s4 s5
  go_wp2_with fail
  (refine wp_region_lat (w7) (by kernel_rfl) (by kernel_rfl) hE ?_); (repeat (go_big_quiet_step (first | fail))); (refine wpQuiet_nil ?_); (intro W hE'); (replace hE := lat_of hE'); (clear hE')
  go_wp2_with fail
  exact bodyPost_ret (v := .tuple #[.int .i64 (fsS P (ord l) (ord l + 1) 0 0 : Nat), .int .i64 c7]) (by simp [results, Try.results167, go_sem]) rfl ⟨_, rfl, hE7.trans hE⟩
theorem lcq1_any (v : Value) (l : List Int) (a b : Nat) (Hgr : Hid (isGrp l = true)) (ha : a < 2 ^ 24) (hb : b < 2 ^ 24) (bG bA : Nat) (w : World) (hG : ∀ W, Ext w W → W.cell? ⟨bG, 0, none⟩ = some v) (hA : ∀ W, Ext w W → W.cell? ⟨bA, 0, none⟩ = some (.int .i64 a)) (h : Ints w v l) :
    Calls Try.prog 168 #[.int .i64 b, .pointer (some ⟨bG, 0, none⟩), .pointer (some ⟨bA, 0, none⟩)] w fun e w' => e = .returned (.bool (cliP l a b)) ∧ Ext w w' := by
  have kG := fun U => hG _ (lat_ext w U)
  have kA := fun U => hA _ (lat_ext w U)
  have hE := Ext.refl w
  have hD : sumF l b (oppF l b) < 2 ^ 24 := Nat.lt_of_lt_of_le (sumF_lt (isGrp_ords Hgr.out) _ _) (pow_ord Hgr.out)
  have h1 : a ||| 1 < 2 ^ 24 := Nat.or_lt_two_pow ha (by decide)
  have ho : ior (a : Int) 1 = ((a ||| 1 : Nat) : Int) := ior_nat (by omega) (by decide)
  have hn : iandn ((sumF l b (oppF l b) : Nat) : Int) ((a ||| 1 : Nat) : Int) = ((andN (sumF l b (oppF l b)) (a ||| 1) : Nat) : Int) := iandn_nat (by omega) (by omega)
  have He : Hid (cliP l a b = (((andN (sumF l b (oppF l b)) (a ||| 1) : Nat) : Int) == 0)) := Lib.hid (by
    unfold cliP; rw [Bool.eq_iff_iff, decide_eq_true_iff, beq_iff_eq]; omega)
  have hcD := fun U => difference_any v l b b (Lat w U) (h.ext (lat_ext w U)) Hgr hb hb
  clear hG hA h
  go_enter Try.func168, Try.ntmps168
  go_wp2_with fail
  (refine wp_region_lat (w) (by kernel_rfl) (by kernel_rfl) hE ?_); (repeat (go_big_quiet_step (first | (go_at_call 169; exact Calls.lat (hcD _))))); (refine wpQuiet_nil ?_); (intro W hE'); (replace hE := lat_of hE'); (clear hE')
  go_wp2_with fail
  go_ret
  exact ⟨ret_bool He.out.symm, hE⟩
theorem LargestClique_any (v : Value) (l : List Int) (a : Int) (w : World) (h : Ints w v l) :
    Calls Try.prog 81 #[.agg #[v], .int .i64 a] w fun e w' => e = .returned (.tuple #[.int .i64 (lcV l a), .bool (lcF l a)]) ∧ Ext w w' := by
  obtain ⟨w1, h1⟩ : ∃ x, x = w.alloc (.cells #[v] 26) := ⟨_, rfl⟩
  obtain ⟨w2, h2⟩ : ∃ x, x = w1.alloc (.cells #[.int .i64 a] 3) := ⟨_, rfl⟩
  have s1 : w1.heap.size = w.heap.size + 1 := by rw [h1]; simp
  have e01 : Ext w w1 := by rw [h1]; exact (Ext.refl _).alloc _
  have e12 : Ext w1 w2 := by rw [h2]; exact (Ext.refl _).alloc _
  have B1 : Blk w1 w.heap.size 26 #[v] := by rw [h1]; exact Blk.new _ _ _
  have B2 : Blk w2 (w.heap.size + 1) 3 #[.int .i64 a] := by rw [h2, ← s1]; exact Blk.new _ _ _
  have kG : ∀ W, Ext w2 W → W.cell? ⟨w.heap.size, 0, none⟩ = some v := fun W hW => ((B1.ext e12).ext hW).cell (i := 0) rfl
  have kA : ∀ W, Ext w2 W → W.cell? ⟨w.heap.size + 1, 0, none⟩ = some (.int .i64 a) := fun W hW => (B2.ext hW).cell (i := 0) rfl
  have hE0 := e01.trans e12
  have hg : ∀ W, Ext w2 W → Ints W v l := fun W hW => h.ext (hE0.trans hW)
  have hE := Ext.refl w2
  have H1 := Lib.hid h1
  have H2 := Lib.hid h2
  have hmf : ∀ (fn : Fn) (first cap : Array Value) (w : World), (Instr.makeFunc fn first cap).run Try.prog w = .ok (.func fn first cap) w := fun _ _ _ _ => rfl
  clear h1 h2 s1 e01 e12 B1 B2 h
  cases hc : connB l a
  · have Hs : Hid (lcF l a = false ∧ lcV l a = 0) := Lib.hid (by
      have e : lcF l a = false := by unfold lcF; rw [hc]; rfl
      exact ⟨e, by unfold lcV; rw [e]; rfl⟩)
    go_enter Try.func81, Try.ntmps81
    go_wp2_with fail
    rw [← H1.out, ← H2.out]
    go_wp2_with (first | (go_at_call 92; refine (IsConnection_val _ _ _ _ (hg _ hE) (hc)).mono ?_; rintro e w' ⟨rfl, hE'⟩; replace hE := hE.trans hE'; clear hE'))
    exact bodyPost_ret (v := .tuple #[.int .i64 0, .bool false]) (by simp [results, Try.results81, go_sem]) rfl ⟨by rw [Hs.out.1, Hs.out.2], hE0.trans hE⟩
  · obtain ⟨n, rfl, -, hn24, hgr⟩ := connB_nat hc
    have Hgr := Lib.hid hgr
    have hob := ord_bd hgr
    clear hgr
    by_cases ho : ord l ≤ 16
    · have Hs : Hid (lcF l n = true ∧ lcV l n = (fsS (cliP l n) (ord l) (ord l + 1) 0 0 : Nat)) := Lib.hid (by
        have e : lcF l n = true := by unfold lcF; rw [hc]; simpa using ho
        exact ⟨e, by unfold lcV; rw [e]; rfl⟩)
      have hcF := fun W (hW : Ext w2 W) => firstCl_fn v l (cliP l n) Hgr W (hg W hW) (.pointer (some ⟨w.heap.size, 0, none⟩)) (.pointer (some ⟨w.heap.size + 1, 0, none⟩)) (fun W' b hW' hb => lcq1_any v l n b Hgr hn24 hb w.heap.size (w.heap.size + 1) W' (fun X hX => kG X (hW.trans (hW'.trans hX))) (fun X hX => kA X (hW.trans (hW'.trans hX))) (hg W' (hW.trans hW')))
      go_enter Try.func81, Try.ntmps81
      go_wp2_with fail
      rw [← H1.out, ← H2.out]
      go_wp2_with (first | (go_at_call 92; refine (IsConnection_val _ _ _ _ (hg _ hE) (hc)).mono ?_; rintro e w' ⟨rfl, hE'⟩; replace hE := hE.trans hE'; clear hE') | (go_at_call 108; refine (OrderOf_grp _ _ _ (hg _ hE) (Hgr)).mono ?_; rintro e w' ⟨rfl, hE'⟩; replace hE := hE.trans hE'; clear hE') | (go_at_call 167; refine (hcF _ hE).mono ?_; rintro e w' ⟨c, rfl, hE'⟩; replace hE := hE.trans hE'; clear hE'))
      exact bodyPost_ret (v := .tuple #[.int .i64 (fsS (cliP l n) (ord l) (ord l + 1) 0 0 : Nat), .bool true]) (by simp [results, Try.results81, go_sem]) rfl ⟨by rw [Hs.out.1, Hs.out.2], hE0.trans hE⟩
    · have Hs : Hid (lcF l n = false ∧ lcV l n = 0) := Lib.hid (by
        have e : lcF l n = false := by unfold lcF; rw [hc]; simpa using ho
        exact ⟨e, by unfold lcV; rw [e]; rfl⟩)
      go_enter Try.func81, Try.ntmps81
      go_wp2_with fail
      rw [← H1.out, ← H2.out]
      go_wp2_with (first | (go_at_call 92; refine (IsConnection_val _ _ _ _ (hg _ hE) (hc)).mono ?_; rintro e w' ⟨rfl, hE'⟩; replace hE := hE.trans hE'; clear hE') | (go_at_call 108; refine (OrderOf_grp _ _ _ (hg _ hE) (Hgr)).mono ?_; rintro e w' ⟨rfl, hE'⟩; replace hE := hE.trans hE'; clear hE'))
      exact bodyPost_ret (v := .tuple #[.int .i64 0, .bool false]) (by simp [results, Try.results81, go_sem]) rfl ⟨by rw [Hs.out.1, Hs.out.2], hE0.trans hE⟩
end Go.Zz
