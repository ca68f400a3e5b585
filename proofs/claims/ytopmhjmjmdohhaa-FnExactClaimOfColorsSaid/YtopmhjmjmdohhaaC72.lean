/- The search for a longest coloring: the program's closure. -/
import Derived.Test.YtopmhjmjmdohhaaC71
import Derived.Test.YtopmhjmjmdohhaaC35
namespace Go.Zz
open Go.RowKit Go.Proofs
set_option maxHeartbeats 2000000
set_option maxRecDepth 4000

/-- w' is w with new blocks, and writes to block b alone -/
theorem Ext.grow {w w' : World} (h : Ext w w') (b : Option Nat) : w.grownBy w' b := ⟨h.os, h.tape, h.output, h.size, fun k hk _ => h.block k hk⟩
theorem grow_set (w : World) (b i : Nat) (v : Value) : w.grownBy (w.setCell ⟨b, i, none⟩ v) (some b) :=
  ⟨rfl, rfl, rfl, by simp, fun k hk hne => Below.heap_setCell _ _ _ _ (fun e => hne (by rw [e]))⟩
theorem Own.kept_ne {TI : TypeId} {w0 w w' : World} {v : Value} {l : List Int} {b : Nat} (h : Own TI w0 w v l) (hg : w.grownBy w' (some b)) (hn : v.ownBlock ≠ some b) : Own TI w0 w' v l := h.kept hg (Or.inr hn)
theorem own_ne {TI : TypeId} {w0 w : World} {v : Value} {l : List Int} {b : Nat} (h : Own TI w0 w v l) (hb : b < w0.heap.size) : v.ownBlock ≠ some b := fun e => by have := (h.blk b e).1; omega
theorem Blk.grown_ne {w w' : World} {b b' : Nat} {T : TypeId} {cs : Array Value} (h : Blk w b' T cs) (hg : w.grownBy w' (some b)) (hn : b ≠ b') : Blk w' b' T cs := h.grown hg (fun k hk => by cases hk; exact hn)

theorem try_any (k : Nat) (hk : k ≤ 3) (bB bK bT : Nat) (hbk : bB ≠ bK) (hbt : bB ≠ bT) : ∀ (f : Nat) (c : List Int) (u : Nat) (v : Value) (W0 w : World) (b : List Int) (vb : Value), colT f k c u = true → u ≤ 3 → c.length + f ≤ 20 → Own 3 W0 w v c → v.ownBlock ≠ some bB →
    Blk w bB 22 #[vb] → Own 3 W0 w vb b → vb.ownBlock ≠ some bB → Blk w bK 3 #[.int .i64 k] → Blk w bT 80 #[.func (.func 82) #[] #[.pointer (some ⟨bB, 0, none⟩), .pointer (some ⟨bK, 0, none⟩), .pointer (some ⟨bT, 0, none⟩)]] → W0.heap.size ≤ bB → Ext W0 w →
    Calls Try.prog 82 #[v, .int .i64 u, .pointer (some ⟨bB, 0, none⟩), .pointer (some ⟨bK, 0, none⟩), .pointer (some ⟨bT, 0, none⟩)] w fun e w' => e = .returned (.tuple #[]) ∧ ∃ v', Blk w' bB 22 #[v'] ∧ Own 3 W0 w' v' (colI f k c u b) ∧ v'.ownBlock ≠ some bB ∧ w.grownBy w' (some bB) := by
  intro f
  induction f with
  | zero => intro c u v W0 w b vb h; exact absurd h (by simp [colT])
  | succ f ih =>
    intro c u v W0 w b vb hT hu hl hOc hNc hBb hOb hNb hBk hBt hb0 hE0
    obtain ⟨ao, cc, rfl, -⟩ := hOc.shape
    obtain ⟨ab, cb, rfl, -⟩ := hOb.shape
    have HT := Lib.hid hT
    have Hih := Lib.hid ih
    have hx := hBb.cell (i := 0) (v := .slice ab b.length cb) rfl
    have hf := hBb.free 0
    clear hT ih
    by_cases hq : b.length < c.length
    · have hG0 := grow_set w bB 0 (.slice ao c.length cc)
      have HB0 : Hid (Blk (w.setCell ⟨bB, 0, none⟩ (.slice ao c.length cc)) bB 22 #[.slice ao c.length cc]) := Lib.hid (hBb.set 0 _)
      have HO0 : Hid (Own 3 W0 (w.setCell ⟨bB, 0, none⟩ (.slice ao c.length cc)) (.slice ao c.length cc) (colIto f k c u b 0)) := Lib.hid (by rw [colIto_zero_t hq]; exact hOc.kept_ne hG0 hNc)
      have HN0 := Lib.hid hNc
      have HG0 := Lib.hid hG0
      clear hG0 hBb hOb
      go_enter Try.func82, Try.ntmps82
      go_wp2_with fail
      clear hx hf
      go_loopw [7] (fun xv wr => ∃ (n : Nat) (vb : Value), n ≤ k ∧ n ≤ u + 1 ∧ xv = .int .i64 n ∧ Blk wr bB 22 #[vb] ∧ Own 3 W0 wr vb (colIto f k c u b n) ∧ vb.ownBlock ≠ some bB ∧ w.grownBy wr (some bB)) (fun x _ => k - (intOf x).toNat)
      case atStart => exact ⟨0, .slice ao c.length cc, by omega, by omega, rfl, HB0.out, HO0.out, HN0.out, HG0.out⟩
      case round =>
        obtain ⟨n, vb, hn1, hn2, rfl, hBb, hO, hN, hG⟩ := hrel
        clear HB0 HO0 HN0 HG0
        have hOc' := hOc.kept_ne hG hNc
        have hBk' := hBk.grown_ne hG hbk
        have hBt' := hBt.grown_ne hG hbt
        have hE0' : Ext W0 wr := hE0.grown hG (fun j hj => by cases hj; exact hb0)
        have hszb := hBb.lt
        have ck := hBk'.cell (i := 0) (v := .int .i64 k) rfl
        have HO := Lib.hid hO
        have HBb := Lib.hid hBb
        have HN := Lib.hid hN
        have HG := Lib.hid hG
        clear hO hBb hN hG
        by_cases hlt : n < k ∧ n ≤ u
        · obtain ⟨hlt, hle⟩ := hlt
          have hI := hOc'.ints
          have hlen : c.length < 17592186044416 := by omega
          have hl1 : (c ++ [(n : Int)]).length = c.length + 1 := by simp
          clear hOc'
          cases hb : badF (c ++ [(n : Int)])
          · have hT' := colT_next HT.out hlt hle hb
            have hcB := fun v W (hv : Ints W v (c ++ [(n : Int)])) => fits_any v _ W hv (by omega)
            rw [hb] at hcB
            have He := Lib.hid (colIto_next (f := f) (k := k) (u := u) (b := b) hb)
            have hcL0 := fun v W b' vb' (h1 : Own 3 W0 W v (c ++ [(n : Int)])) (h2 : v.ownBlock ≠ some bB) (h3 : Blk W bB 22 #[vb']) (h4 : Own 3 W0 W vb' b') (h5 : vb'.ownBlock ≠ some bB) (h6 : Blk W bK 3 #[.int .i64 k]) (h7 : Blk W bT 80 #[.func (.func 82) #[] #[.pointer (some ⟨bB, 0, none⟩), .pointer (some ⟨bK, 0, none⟩), .pointer (some ⟨bT, 0, none⟩)]]) (h8 : Ext W0 W) => Hih.out (c ++ [(n : Int)]) (max u (n + 1)) v W0 W b' vb' hT' (by omega) (by omega) h1 h2 h3 h4 h5 h6 h7 hb0 h8
            have hcL : ∀ (v : Value) (W : World) (b' : List Int) (vb' : Value), Own 3 W0 W v (c ++ [(n : Int)]) → v.ownBlock ≠ some bB → Blk W bB 22 #[vb'] → Own 3 W0 W vb' b' → vb'.ownBlock ≠ some bB → Blk W bK 3 #[.int .i64 k] → Blk W bT 80 #[.func (.func 82) #[] #[.pointer (some ⟨bB, 0, none⟩), .pointer (some ⟨bK, 0, none⟩), .pointer (some ⟨bT, 0, none⟩)]] → Ext W0 W →
                Calls Try.prog 82 #[v, .int .i64 (if (u : Int) < (n : Int) + 1 then (n : Int) + 1 else u), .pointer (some ⟨bB, 0, none⟩), .pointer (some ⟨bK, 0, none⟩), .pointer (some ⟨bT, 0, none⟩)] W fun e w' => e = .returned (.tuple #[]) ∧ ∃ v', Blk w' bB 22 #[v'] ∧ Own 3 W0 w' v' (colI f k (c ++ [(n : Int)]) (max u (n + 1)) b') ∧ v'.ownBlock ≠ some bB ∧ W.grownBy w' (some bB) := by
              intro v W b' vb' h1 h2 h3 h4 h5 h6 h7 h8
              have := hcL0 v W b' vb' h1 h2 h3 h4 h5 h6 h7 h8
              split
              · rw [show max u (n + 1) = n + 1 by omega] at this ⊢; exact this
              · rw [show max u (n + 1) = u by omega] at this ⊢; exact this
            have kt : ∀ W, Ext wr W → W.cell? ⟨bT, 0, none⟩ = some (.func (.func 82) #[] #[.pointer (some ⟨bB, 0, none⟩), .pointer (some ⟨bK, 0, none⟩), .pointer (some ⟨bT, 0, none⟩)]) := fun W hW => (hBt'.ext hW).cell (i := 0) rfl
            clear hcL0 hb hT'
            by_cases hm : (u : Int) < (n : Int) + 1
            all_goals
              first | rw [if_pos hm] at hcL | rw [if_neg hm] at hcL
              go_wp2_with (first
                | (go_at_call 83; refine (Calls.sh (copyInts_any _ _ _ hI)).mono ?_; rintro e w1 ⟨ao1, c1, rfl, hO1, hE1⟩)
                | (at_builtin; refine wp_append1 slI rfl _ _ rfl wr _ _ _ _ hO1 hE1 hlen rfl rfl ?_; intro v2 w2 hO2 hE2)
                | (go_at_call 84; refine (hcB _ _ hO2.ints).mono ?_; rintro e w3 ⟨rfl, hE3⟩; have hE23 := hE2.trans hE3)
                | (go_at_call 82; refine (hcL _ _ _ vb ((hO2.ext hE3).mono hE0') (own_ne hO2 hszb) (HBb.out.ext hE23) (HO.out.ext hE23) HN.out (hBk'.ext hE23) (hBt'.ext hE23) (hE0'.trans hE23)).mono ?_; rintro e w4 ⟨rfl, v4, hB4, hO4, hN4, hG4⟩))
              go_roundw
              case rel => exact ⟨n + 1, v4, by omega, by omega, by go_num, hB4, by rw [He.out]; exact hO4, hN4, grownBy_trans (grownBy_trans HG.out (hE23.grow _)) hG4⟩
              case measure => (simp [intOf]; omega)
          · have hcB := fun v W (hv : Ints W v (c ++ [(n : Int)])) => fits_any v _ W hv (by omega)
            rw [hb] at hcB
            have He := Lib.hid (colIto_bad (f := f) (k := k) (u := u) (b := b) hb)
            clear hb
            go_wp2_with (first
              | (go_at_call 83; refine (Calls.sh (copyInts_any _ _ _ hI)).mono ?_; rintro e w1 ⟨ao1, c1, rfl, hO1, hE1⟩)
              | (at_builtin; refine wp_append1 slI rfl _ _ rfl wr _ _ _ _ hO1 hE1 hlen rfl rfl ?_; intro v2 w2 hO2 hE2)
              | (go_at_call 84; refine (hcB _ _ hO2.ints).mono ?_; rintro e w3 ⟨rfl, hE3⟩; have hE23 := hE2.trans hE3))
            go_roundw
            case rel => exact ⟨n + 1, vb, by omega, by omega, by go_num, HBb.out.ext hE23, by rw [He.out]; exact HO.out.ext hE23, HN.out, grownBy_trans HG.out (hE23.grow _)⟩
            case measure => (simp [intOf]; omega)
        · have He : Hid (colI (f + 1) k c u b = colIto f k c u b n) := Lib.hid (by rw [colI_succ, show min k (u + 1) = n by omega])
          clear hOc'
          by_cases h1 : n < k
          all_goals
            have h2 : n < k → ¬ n ≤ u := by omega
            try replace h2 := h2 h1
            clear hlt
            go_wp2_with fail
            all_goals (go_end0; exact ⟨rfl, vb, HBb.out, by rw [He.out]; exact HO.out, HN.out, HG.out⟩)
    · have HB0 := Lib.hid hBb
      have HO0 : Hid (Own 3 W0 w (.slice ab b.length cb) (colIto f k c u b 0)) := Lib.hid (by rw [colIto_zero_f hq]; exact hOb)
      have HN0 := Lib.hid hNb
      have HG0 := Lib.hid (World.grownBy.refl w (some bB))
      clear hBb hOb
      go_enter Try.func82, Try.ntmps82
      go_wp2_with fail
      clear hx hf
      go_loopw [7] (fun xv wr => ∃ (n : Nat) (vb : Value), n ≤ k ∧ n ≤ u + 1 ∧ xv = .int .i64 n ∧ Blk wr bB 22 #[vb] ∧ Own 3 W0 wr vb (colIto f k c u b n) ∧ vb.ownBlock ≠ some bB ∧ w.grownBy wr (some bB)) (fun x _ => k - (intOf x).toNat)
      case atStart => exact ⟨0, .slice ab b.length cb, by omega, by omega, rfl, HB0.out, HO0.out, HN0.out, HG0.out⟩
      case round =>
        obtain ⟨n, vb, hn1, hn2, rfl, hBb, hO, hN, hG⟩ := hrel
        clear HB0 HO0 HN0 HG0
        have hOc' := hOc.kept_ne hG hNc
        have hBk' := hBk.grown_ne hG hbk
        have hBt' := hBt.grown_ne hG hbt
        have hE0' : Ext W0 wr := hE0.grown hG (fun j hj => by cases hj; exact hb0)
        have hszb := hBb.lt
        have ck := hBk'.cell (i := 0) (v := .int .i64 k) rfl
        have HO := Lib.hid hO
        have HBb := Lib.hid hBb
        have HN := Lib.hid hN
        have HG := Lib.hid hG
        clear hO hBb hN hG
        by_cases hlt : n < k ∧ n ≤ u
        · obtain ⟨hlt, hle⟩ := hlt
          have hI := hOc'.ints
          have hlen : c.length < 17592186044416 := by omega
          have hl1 : (c ++ [(n : Int)]).length = c.length + 1 := by simp
          clear hOc'
          cases hb : badF (c ++ [(n : Int)])
          · have hT' := colT_next HT.out hlt hle hb
            have hcB := fun v W (hv : Ints W v (c ++ [(n : Int)])) => fits_any v _ W hv (by omega)
            rw [hb] at hcB
            have He := Lib.hid (colIto_next (f := f) (k := k) (u := u) (b := b) hb)
            have hcL0 := fun v W b' vb' (h1 : Own 3 W0 W v (c ++ [(n : Int)])) (h2 : v.ownBlock ≠ some bB) (h3 : Blk W bB 22 #[vb']) (h4 : Own 3 W0 W vb' b') (h5 : vb'.ownBlock ≠ some bB) (h6 : Blk W bK 3 #[.int .i64 k]) (h7 : Blk W bT 80 #[.func (.func 82) #[] #[.pointer (some ⟨bB, 0, none⟩), .pointer (some ⟨bK, 0, none⟩), .pointer (some ⟨bT, 0, none⟩)]]) (h8 : Ext W0 W) => Hih.out (c ++ [(n : Int)]) (max u (n + 1)) v W0 W b' vb' hT' (by omega) (by omega) h1 h2 h3 h4 h5 h6 h7 hb0 h8
            have hcL : ∀ (v : Value) (W : World) (b' : List Int) (vb' : Value), Own 3 W0 W v (c ++ [(n : Int)]) → v.ownBlock ≠ some bB → Blk W bB 22 #[vb'] → Own 3 W0 W vb' b' → vb'.ownBlock ≠ some bB → Blk W bK 3 #[.int .i64 k] → Blk W bT 80 #[.func (.func 82) #[] #[.pointer (some ⟨bB, 0, none⟩), .pointer (some ⟨bK, 0, none⟩), .pointer (some ⟨bT, 0, none⟩)]] → Ext W0 W →
                Calls Try.prog 82 #[v, .int .i64 (if (u : Int) < (n : Int) + 1 then (n : Int) + 1 else u), .pointer (some ⟨bB, 0, none⟩), .pointer (some ⟨bK, 0, none⟩), .pointer (some ⟨bT, 0, none⟩)] W fun e w' => e = .returned (.tuple #[]) ∧ ∃ v', Blk w' bB 22 #[v'] ∧ Own 3 W0 w' v' (colI f k (c ++ [(n : Int)]) (max u (n + 1)) b') ∧ v'.ownBlock ≠ some bB ∧ W.grownBy w' (some bB) := by
              intro v W b' vb' h1 h2 h3 h4 h5 h6 h7 h8
              have := hcL0 v W b' vb' h1 h2 h3 h4 h5 h6 h7 h8
              split
              · rw [show max u (n + 1) = n + 1 by omega] at this ⊢; exact this
              · rw [show max u (n + 1) = u by omega] at this ⊢; exact this
            have kt : ∀ W, Ext wr W → W.cell? ⟨bT, 0, none⟩ = some (.func (.func 82) #[] #[.pointer (some ⟨bB, 0, none⟩), .pointer (some ⟨bK, 0, none⟩), .pointer (some ⟨bT, 0, none⟩)]) := fun W hW => (hBt'.ext hW).cell (i := 0) rfl
            clear hcL0 hb hT'
            by_cases hm : (u : Int) < (n : Int) + 1
            all_goals
              first | rw [if_pos hm] at hcL | rw [if_neg hm] at hcL
              go_wp2_with (first
                | (go_at_call 83; refine (Calls.sh (copyInts_any _ _ _ hI)).mono ?_; rintro e w1 ⟨ao1, c1, rfl, hO1, hE1⟩)
                | (at_builtin; refine wp_append1 slI rfl _ _ rfl wr _ _ _ _ hO1 hE1 hlen rfl rfl ?_; intro v2 w2 hO2 hE2)
                | (go_at_call 84; refine (hcB _ _ hO2.ints).mono ?_; rintro e w3 ⟨rfl, hE3⟩; have hE23 := hE2.trans hE3)
                | (go_at_call 82; refine (hcL _ _ _ vb ((hO2.ext hE3).mono hE0') (own_ne hO2 hszb) (HBb.out.ext hE23) (HO.out.ext hE23) HN.out (hBk'.ext hE23) (hBt'.ext hE23) (hE0'.trans hE23)).mono ?_; rintro e w4 ⟨rfl, v4, hB4, hO4, hN4, hG4⟩))
              go_roundw
              case rel => exact ⟨n + 1, v4, by omega, by omega, by go_num, hB4, by rw [He.out]; exact hO4, hN4, grownBy_trans (grownBy_trans HG.out (hE23.grow _)) hG4⟩
              case measure => (simp [intOf]; omega)
          · have hcB := fun v W (hv : Ints W v (c ++ [(n : Int)])) => fits_any v _ W hv (by omega)
            rw [hb] at hcB
            have He := Lib.hid (colIto_bad (f := f) (k := k) (u := u) (b := b) hb)
            clear hb
            go_wp2_with (first
              | (go_at_call 83; refine (Calls.sh (copyInts_any _ _ _ hI)).mono ?_; rintro e w1 ⟨ao1, c1, rfl, hO1, hE1⟩)
              | (at_builtin; refine wp_append1 slI rfl _ _ rfl wr _ _ _ _ hO1 hE1 hlen rfl rfl ?_; intro v2 w2 hO2 hE2)
              | (go_at_call 84; refine (hcB _ _ hO2.ints).mono ?_; rintro e w3 ⟨rfl, hE3⟩; have hE23 := hE2.trans hE3))
            go_roundw
            case rel => exact ⟨n + 1, vb, by omega, by omega, by go_num, HBb.out.ext hE23, by rw [He.out]; exact HO.out.ext hE23, HN.out, grownBy_trans HG.out (hE23.grow _)⟩
            case measure => (simp [intOf]; omega)
        · have He : Hid (colI (f + 1) k c u b = colIto f k c u b n) := Lib.hid (by rw [colI_succ, show min k (u + 1) = n by omega])
          clear hOc'
          by_cases h1 : n < k
          all_goals
            have h2 : n < k → ¬ n ≤ u := by omega
            try replace h2 := h2 h1
            clear hlt
            go_wp2_with fail
            all_goals (go_end0; exact ⟨rfl, vb, HBb.out, by rw [He.out]; exact HO.out, HN.out, HG.out⟩)
end Go.Zz
