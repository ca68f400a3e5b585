/- FindTile and ClaimOfTile of both. -/
import Derived.Test.YtopmhjmjmdohhaaC75
import Derived.Laws.EntriesVeiled
namespace Go.Zz
open Go.RowKit Go.Proofs
set_option maxHeartbeats 2000000
set_option maxRecDepth 4000

theorem tiles_any (v : Value) (l : List Int) (a m : Nat) (w : World) (h : Ints w v l) (Hgr : Hid (isGrp l = true)) (ha0 : a ≠ 0) (ha : a < 2 ^ ord l) (hm1 : 1 ≤ m) (hm : m ≤ 1000) :
    Calls Try.prog 103 #[.agg #[v], .int .i64 a, .int .i64 m] w fun e w' => ∃ v', e = .returned v' ∧ Own 3 w w' v' (castL (tileL l a m)) ∧ Ext w w' := by
  have hp24 := pow_ord Hgr.out
  have ha24 : a < 2 ^ 24 := Nat.lt_of_lt_of_le ha hp24
  have He : Hid (tileL l a m = tlI l a m (ord l + 1) a 1 []) := Lib.hid (by
    have := tlI_eq l a m (ord l + 1) a 1 [] (by simp; omega)
    rw [this]; simp [tileL])
  have hca : 1 ≤ cnt a := cnt_pos (Nat.pos_of_ne_zero ha0) ha24
  have hmf : ∀ (fn : Fn) (first cap : Array Value) (w : World), (Instr.makeFunc fn first cap).run Try.prog w = .ok (.func fn first cap) w := fun _ _ _ _ => rfl
  have HH := Lib.hid h
  clear h
  go_enter Try.func103, Try.ntmps103
  go_wp2_with fail
  obtain ⟨w1, h1⟩ : ∃ x, x = w.alloc (.cells #[v] 24) := ⟨_, rfl⟩
  obtain ⟨w2, h2⟩ : ∃ x, x = w1.alloc (.cells #[.int .i64 (a : Int)] 3) := ⟨_, rfl⟩
  obtain ⟨w3, h3⟩ : ∃ x, x = w2.alloc (.cells #[.int .i64 (m : Int)] 3) := ⟨_, rfl⟩
  obtain ⟨w4, h4⟩ : ∃ x, x = w3.alloc (.cells #[] 3) := ⟨_, rfl⟩
  obtain ⟨w5, h5⟩ : ∃ x, x = w4.alloc (.cells #[.slice (some ⟨w.heap.size + 1 + 1 + 1, 0, none⟩) 0 0] 22) := ⟨_, rfl⟩
  obtain ⟨w6, h6⟩ : ∃ x, x = w5.alloc (.cells #[.func (.func 118) #[] #[.pointer (some ⟨w.heap.size, 0, none⟩), .pointer (some ⟨w.heap.size + 1 + 1 + 1 + 1, 0, none⟩), .pointer (some ⟨w.heap.size + 1, 0, none⟩), .pointer (some ⟨w.heap.size + 1 + 1, 0, none⟩), .pointer (some ⟨w.heap.size + 1 + 1 + 1 + 1 + 1, 0, none⟩)]] 98) := ⟨_, rfl⟩
  rw [← h1, ← h2, ← h3, ← h4, ← h5, ← h6]
  have s1 : w1.heap.size = w.heap.size + 1 := by rw [h1]; simp
  have s2 : w2.heap.size = w.heap.size + 1 + 1 := by rw [h2]; simp [s1]
  have s3 : w3.heap.size = w.heap.size + 1 + 1 + 1 := by rw [h3]; simp [s2]
  have s4 : w4.heap.size = w.heap.size + 1 + 1 + 1 + 1 := by rw [h4]; simp [s3]
  have s5 : w5.heap.size = w.heap.size + 1 + 1 + 1 + 1 + 1 := by rw [h5]; simp [s4]
  have e01 : Ext w w1 := by rw [h1]; exact (Ext.refl _).alloc _
  have e12 : Ext w1 w2 := by rw [h2]; exact (Ext.refl _).alloc _
  have e23 : Ext w2 w3 := by rw [h3]; exact (Ext.refl _).alloc _
  have e34 : Ext w3 w4 := by rw [h4]; exact (Ext.refl _).alloc _
  have e45 : Ext w4 w5 := by rw [h5]; exact (Ext.refl _).alloc _
  have e56 : Ext w5 w6 := by rw [h6]; exact (Ext.refl _).alloc _
  have B1 : Blk w1 w.heap.size 24 #[v] := by rw [h1]; exact Blk.new _ _ _
  have B2 : Blk w2 (w.heap.size + 1) 3 #[.int .i64 (a : Int)] := by rw [h2, ← s1]; exact Blk.new _ _ _
  have B3 : Blk w3 (w.heap.size + 1 + 1) 3 #[.int .i64 (m : Int)] := by rw [h3, ← s2]; exact Blk.new _ _ _
  have B5 : Blk w5 (w.heap.size + 1 + 1 + 1 + 1) 22 #[.slice (some ⟨w.heap.size + 1 + 1 + 1, 0, none⟩) 0 0] := by rw [h5, ← s4]; exact Blk.new _ _ _
  have B6 : Blk w6 (w.heap.size + 1 + 1 + 1 + 1 + 1) 98 #[.func (.func 118) #[] #[.pointer (some ⟨w.heap.size, 0, none⟩), .pointer (some ⟨w.heap.size + 1 + 1 + 1 + 1, 0, none⟩), .pointer (some ⟨w.heap.size + 1, 0, none⟩), .pointer (some ⟨w.heap.size + 1 + 1, 0, none⟩), .pointer (some ⟨w.heap.size + 1 + 1 + 1 + 1 + 1, 0, none⟩)]] := by rw [h6, ← s5]; exact Blk.new _ _ _
  have O4 : Own 3 w3 w4 (.slice (some ⟨w.heap.size + 1 + 1 + 1, 0, none⟩) 0 0) [] := by rw [h4, ← s3]; exact own_made (TI := 3) (n := 0) (by omega) (Ext.refl w3) [] rfl
  have e13 := e12.trans e23
  have e36 := e34.trans (e45.trans e56)
  have e03 := e01.trans e13
  refine (tl_any v l a m Hgr ha0 ha hm w3 w.heap.size (w.heap.size + 1 + 1 + 1 + 1) (w.heap.size + 1) (w.heap.size + 1 + 1) (w.heap.size + 1 + 1 + 1 + 1 + 1) (by omega) (by omega) _ (fun W hW => ((B1.ext e13).ext hW).cell (i := 0) rfl) (fun W hW => ((B2.ext e23).ext hW).cell (i := 0) rfl) (fun W hW => (B3.ext hW).cell (i := 0) rfl) (Lib.hid fun W hW => HH.out.ext (e03.trans hW)) rfl (ord l + 1) a 1 w6 _ [] (by omega) ha (by decide) (by simp; omega) e36 (B5.ext e56) (O4.ext (e45.trans e56)) B6).mono ?_
  rintro e w7 ⟨rfl, v7, hB7, hO7, hF7, -⟩
  rw [← He.out] at hO7
  obtain ⟨a7, c7, rfl, -⟩ := hO7.shape
  have hx7 := hB7.cell (i := 0) (v := .slice a7 (castL (tileL l a m)).length c7) rfl
  have hE7 : Ext w w7 := hF7.ext (e03.trans e36) (by omega) (fun j hj => by simp [Value.ownBlock] at hj; omega)
  go_wp2_with fail
  go_ret
  exact ⟨_, rfl, hO7.mono e03, hE7⟩
theorem FindTile_any (v : Value) (l : List Int) (a : Int) (w : World) (h : Ints w v l) :
    Calls Try.prog 62 #[.agg #[v], .int .i64 a] w fun e w' => e = .returned (.tuple #[.int .i64 (ftV l a), .bool (ftB l a)]) ∧ Ext w w' := by
  obtain ⟨wb, hwb⟩ : ∃ wb, wb = w.alloc (.cells #[v] 24) := ⟨_, rfl⟩
  have hE0 := (Ext.refl w).alloc (.cells #[v] 24)
  have hb := box_cell w v 24
  rw [← hwb] at hE0 hb
  have hg : ∀ W, Ext wb W → Ints W v l := fun W hW => h.ext (hE0.trans hW)
  have hE := Ext.refl wb
  have Hsz : Hid (w.heap.size + 1 = wb.heap.size) := Lib.hid (by rw [hwb]; simp [go_sem])
  have Hwb := Lib.hid hwb
  clear hwb h
  have hbx := hb wb hE
  cases hs : isSetB l a
  · have Hs := Lib.hid (ft_no (isOneB_no hs))
    go_enter Try.func62, Try.ntmps62
    go_wp2_with fail
    rw [← Hwb.out]
    go_wp2_with (first | (go_at_call 89; refine (IsSet_val _ _ _ _ (hg _ hE) (hs)).mono ?_; rintro e w' ⟨rfl, hE'⟩; replace hE := hE.trans hE'; clear hE'))
    exact bodyPost_ret (v := .tuple #[.int .i64 0, .bool false]) (by simp [results, Try.results62, go_sem]) rfl ⟨by rw [Hs.out.1, Hs.out.2], hE0.trans hE⟩
  · obtain ⟨n, rfl, hn, hn24, hgr⟩ := isSetB_nat hs
    by_cases h0 : n = 0
    · subst h0
      have Hs : Hid (ftB l ((0 : Nat) : Int) = false ∧ ftV l ((0 : Nat) : Int) = 0) := Lib.hid (ft_no (isOneB_zero l))
      go_enter Try.func62, Try.ntmps62
      go_wp2_with fail
      rw [← Hwb.out]
      go_wp2_with (first | (go_at_call 89; refine (IsSet_val _ _ _ _ (hg _ hE) (hs)).mono ?_; rintro e w' ⟨rfl, hE'⟩; replace hE := hE.trans hE'; clear hE'))
      exact bodyPost_ret (v := .tuple #[.int .i64 0, .bool false]) (by simp [results, Try.results62, go_sem]) rfl ⟨by rw [Hs.out.1, Hs.out.2], hE0.trans hE⟩
    · have h00 : ((n : Int) == 0) = false := by rw [beq_eq_false_iff_ne]; omega
      have Hgr := Lib.hid hgr
      have hone := isOneB_yes hs (by omega)
      have hcT := fun W (hW : Ext wb W) => tiles_any v l n 1 W (hg W hW) Hgr h0 hn (by omega) (by omega)
      have hlenT : (tileL l n 1).length ≤ 1 := tlS_len _ _ _ _ _ _ (by omega)
      have Ho := Lib.hid hone
      clear hone hgr h0
      rcases hT : tileL l n 1 with _ | ⟨x, L⟩
      · have Hs := Lib.hid (ft_nil hT)
        rw [hT] at hcT
        clear hT hlenT
        go_enter Try.func62, Try.ntmps62
        go_wp2_with fail
        rw [← Hwb.out]
        go_wp2_with (first | (go_at_call 89; refine (IsSet_val _ _ _ _ (hg _ hE) (hs)).mono ?_; rintro e w' ⟨rfl, hE'⟩; replace hE := hE.trans hE'; clear hE') | (go_at_call 103; refine (hcT _ hE).mono ?_; rintro e w' ⟨vT, rfl, hO, hE'⟩; replace hE := hE.trans hE'; clear hE'; obtain ⟨aT, cT, rfl, -⟩ := hO.shape; simp only [castL, List.map_nil, List.length_nil] at hO ⊢))
        exact bodyPost_ret (v := .tuple #[.int .i64 0, .bool false]) (by simp [results, Try.results62, go_sem]) rfl ⟨by rw [Hs.out.1, Hs.out.2], hE0.trans hE⟩
      · rw [hT] at hlenT
        have hL : L = [] := List.eq_nil_of_length_eq_zero (by simp at hlenT; simpa using hlenT)
        subst hL
        have Hs := Lib.hid (ft_yes Ho.out hT)
        rw [hT] at hcT
        clear hT hlenT
        go_enter Try.func62, Try.ntmps62
        go_wp2_with fail
        rw [← Hwb.out]
        go_wp2_with (first | (go_at_call 89; refine (IsSet_val _ _ _ _ (hg _ hE) (hs)).mono ?_; rintro e w' ⟨rfl, hE'⟩; replace hE := hE.trans hE'; clear hE') | (go_at_call 103; refine (hcT _ hE).mono ?_; rintro e w' ⟨vT, rfl, hO, hE'⟩; replace hE := hE.trans hE'; clear hE'; obtain ⟨ao, c, adr, rfl, hlen, hadr, hcell⟩ := hO.ints.op; have hix : ∀ W, (Instr.indexAt 22 (.slice ao 1 c) (.int .i64 0)).run Try.prog W = .ok (.pointer (some (adr 0))) W := fun W => ints_index (c := c) (n := (castL [x]).length) elI szI hadr 0 W (by simp [castL]); have hck : w'.cell? (adr 0) = some (.int .i64 (x : Int)) := hcell 0 w' (by simp [castL]) (Ext.refl _); clear hlen hadr hcell; rw [show (castL [x]).length = 1 from rfl] at hO ⊢))
        exact bodyPost_ret (v := .tuple #[.int .i64 x, .bool true]) (by simp [results, Try.results62, go_sem]) rfl ⟨by rw [Hs.out.1, Hs.out.2], hE0.trans hE⟩
end Go.Zz
