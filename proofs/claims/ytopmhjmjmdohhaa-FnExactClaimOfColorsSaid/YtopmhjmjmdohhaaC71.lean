/- The search for a longest coloring: the reference. -/
import Derived.Test.YtopmhjmjmdohhaaC70
namespace Go.Zz
open Go.RowKit Go.Proofs
set_option maxHeartbeats 2000000
set_option maxRecDepth 4000

theorem sLong_any (k : Nat) (hk : k ≤ 3) : ∀ (f : Nat) (c : List Int) (u : Nat) (v : Value) (W0 w : World), colT f k c u = true → u ≤ 3 → c.length + f ≤ 20 → Own 3 W0 w v c → Ext W0 w →
    Calls Try.prog 80 #[v, .int .i64 k, .int .i64 u] w fun e w' => ∃ v', e = .returned v' ∧ Own 3 W0 w' v' (colS f k c u) ∧ Ext w w' := by
  intro f
  induction f with
  | zero => intro c u v W0 w h; exact absurd h (by simp [colT])
  | succ f ih =>
    intro c u v W0 w hT hu hl hOc hE0
    obtain ⟨ao, cc, rfl, -⟩ := hOc.shape
    have HT := Lib.hid hT
    have Hih := Lib.hid ih
    clear hT ih
    go_enter Try.func80, Try.ntmps80
    go_wp2_with fail
    go_loopw [7, 8] (fun bv xv wr => ∃ n : Nat, n ≤ k ∧ n ≤ u + 1 ∧ xv = .int .i64 n ∧ Own 3 W0 wr bv (colSto f k c u n) ∧ Ext w wr) (fun _ x _ => k - (intOf x).toNat)
    case atStart => exact ⟨0, by omega, by omega, rfl, hOc, Ext.refl _⟩
    case round =>
      obtain ⟨n, hn1, hn2, rfl, hO, hEr⟩ := hrel
      obtain ⟨ab, cb, rfl, -⟩ := hO.shape
      have HO := Lib.hid hO
      by_cases hlt : n < k ∧ n ≤ u
      · obtain ⟨hlt, hle⟩ := hlt
        have hI := (hOc.ext hEr).ints
        have hO0 := own_made (TI := 3) (n := 0) (by omega) (Ext.refl wr) [] rfl
        have hE00 := (Ext.refl wr).alloc (.cells #[] 3)
        have hI0 := hI.ext hE00
        have hlen : c.length < 17592186044416 := by omega
        have hlen0 : ([] : List Int).length + c.length ≤ 17592186044416 := by simp; omega
        have hl1 : (c ++ [(n : Int)]).length = c.length + 1 := by simp
        clear hI hO
        obtain ⟨B, hB⟩ : ∃ B, B = colSto f k c u n := ⟨_, rfl⟩
        rw [← hB] at HO ⊢
        cases hb : badF (c ++ [(n : Int)])
        · have hT' := colT_next HT.out hlt hle hb
          obtain ⟨Y, hY⟩ : ∃ Y, Y = colS f k (c ++ [(n : Int)]) (max u (n + 1)) := ⟨_, rfl⟩
          have hcB := fun v W (hv : Ints W v (c ++ [(n : Int)])) => sBad_any v _ W hv (by omega)
          rw [hb] at hcB
          have hcL0 := fun v W hO hE => Hih.out (c ++ [(n : Int)]) (max u (n + 1)) v W0 W hT' (by omega) (by omega) hO hE
          rw [← hY] at hcL0
          have Hmore : Hid (B.length < Y.length → colSto f k c u (n + 1) = Y) := Lib.hid fun h => by rw [hB, hY] at h; rw [hY]; exact colSto_more hb h
          have Hless : Hid (¬ B.length < Y.length → colSto f k c u (n + 1) = B) := Lib.hid fun h => by rw [hB, hY] at h; rw [hB]; exact colSto_less hb h
          clear hB hY hb hT'
          have hcL : ∀ (v : Value) (W : World), Own 3 W0 W v (c ++ [(n : Int)]) → Ext W0 W → Calls Try.prog 80 #[v, .int .i64 k, .int .i64 (if (u : Int) < (n : Int) + 1 then (n : Int) + 1 else u)] W fun e w' => ∃ v', e = .returned v' ∧ Own 3 W0 w' v' Y ∧ Ext W w' := by
            intro v W a b
            have := hcL0 v W a b
            split
            · rw [show max u (n + 1) = n + 1 by omega] at this; exact this
            · rw [show max u (n + 1) = u by omega] at this; exact this
          clear hcL0
          by_cases hm : (u : Int) < (n : Int) + 1
          · rw [if_pos hm] at hcL
            by_cases hq : B.length < Y.length
            ·
              go_wp2_with (first
                | (at_builtin; refine wp_append1 slI rfl _ _ rfl wr _ _ _ _ hO1 hE1 hlen rfl rfl ?_; intro v2 w2 hO2 hE2)
                | (at_builtin; refine wp_appends slI rfl _ _ rfl wr _ _ _ _ _ hO0 hI0 hE00 hlen0 rfl rfl ?_; intro v1 w1 hO1 hE1; simp only [List.nil_append] at hO1)
                | (go_at_call 110; refine (hcB _ _ hO2.ints).mono ?_; rintro e w3 ⟨rfl, hE3⟩)
                | (go_at_call 80; refine (hcL _ _ ((hO2.ext hE3).mono (hE0.trans hEr)) ((hE0.trans hEr).trans (hE2.trans hE3))).mono ?_; rintro e w4 ⟨v4, rfl, hO4, hE4⟩; obtain ⟨a4, c4, rfl, -⟩ := hO4.shape))
              go_roundw
              case rel => exact ⟨n + 1, by omega, by omega, by go_num, by rw [Hmore.out hq]; exact hO4, hEr.trans (hE2.trans (hE3.trans hE4))⟩
              case measure => (simp [intOf]; omega)
            ·
              go_wp2_with (first
                | (at_builtin; refine wp_append1 slI rfl _ _ rfl wr _ _ _ _ hO1 hE1 hlen rfl rfl ?_; intro v2 w2 hO2 hE2)
                | (at_builtin; refine wp_appends slI rfl _ _ rfl wr _ _ _ _ _ hO0 hI0 hE00 hlen0 rfl rfl ?_; intro v1 w1 hO1 hE1; simp only [List.nil_append] at hO1)
                | (go_at_call 110; refine (hcB _ _ hO2.ints).mono ?_; rintro e w3 ⟨rfl, hE3⟩)
                | (go_at_call 80; refine (hcL _ _ ((hO2.ext hE3).mono (hE0.trans hEr)) ((hE0.trans hEr).trans (hE2.trans hE3))).mono ?_; rintro e w4 ⟨v4, rfl, hO4, hE4⟩; obtain ⟨a4, c4, rfl, -⟩ := hO4.shape))
              go_roundw
              case rel => exact ⟨n + 1, by omega, by omega, by go_num, by rw [Hless.out hq]; exact HO.out.ext (hE2.trans (hE3.trans hE4)), hEr.trans (hE2.trans (hE3.trans hE4))⟩
              case measure => (simp [intOf]; omega)
          · rw [if_neg hm] at hcL
            by_cases hq : B.length < Y.length
            ·
              go_wp2_with (first
                | (at_builtin; refine wp_append1 slI rfl _ _ rfl wr _ _ _ _ hO1 hE1 hlen rfl rfl ?_; intro v2 w2 hO2 hE2)
                | (at_builtin; refine wp_appends slI rfl _ _ rfl wr _ _ _ _ _ hO0 hI0 hE00 hlen0 rfl rfl ?_; intro v1 w1 hO1 hE1; simp only [List.nil_append] at hO1)
                | (go_at_call 110; refine (hcB _ _ hO2.ints).mono ?_; rintro e w3 ⟨rfl, hE3⟩)
                | (go_at_call 80; refine (hcL _ _ ((hO2.ext hE3).mono (hE0.trans hEr)) ((hE0.trans hEr).trans (hE2.trans hE3))).mono ?_; rintro e w4 ⟨v4, rfl, hO4, hE4⟩; obtain ⟨a4, c4, rfl, -⟩ := hO4.shape))
              go_roundw
              case rel => exact ⟨n + 1, by omega, by omega, by go_num, by rw [Hmore.out hq]; exact hO4, hEr.trans (hE2.trans (hE3.trans hE4))⟩
              case measure => (simp [intOf]; omega)
            ·
              go_wp2_with (first
                | (at_builtin; refine wp_append1 slI rfl _ _ rfl wr _ _ _ _ hO1 hE1 hlen rfl rfl ?_; intro v2 w2 hO2 hE2)
                | (at_builtin; refine wp_appends slI rfl _ _ rfl wr _ _ _ _ _ hO0 hI0 hE00 hlen0 rfl rfl ?_; intro v1 w1 hO1 hE1; simp only [List.nil_append] at hO1)
                | (go_at_call 110; refine (hcB _ _ hO2.ints).mono ?_; rintro e w3 ⟨rfl, hE3⟩)
                | (go_at_call 80; refine (hcL _ _ ((hO2.ext hE3).mono (hE0.trans hEr)) ((hE0.trans hEr).trans (hE2.trans hE3))).mono ?_; rintro e w4 ⟨v4, rfl, hO4, hE4⟩; obtain ⟨a4, c4, rfl, -⟩ := hO4.shape))
              go_roundw
              case rel => exact ⟨n + 1, by omega, by omega, by go_num, by rw [Hless.out hq]; exact HO.out.ext (hE2.trans (hE3.trans hE4)), hEr.trans (hE2.trans (hE3.trans hE4))⟩
              case measure => (simp [intOf]; omega)
        · have hcB := fun v W (hv : Ints W v (c ++ [(n : Int)])) => sBad_any v _ W hv (by omega)
          rw [hb] at hcB
          have He : Hid (colSto f k c u (n + 1) = B) := Lib.hid (by rw [hB]; exact colSto_bad hb)
          clear hB hb
          go_wp2_with (first
            | (at_builtin; refine wp_append1 slI rfl _ _ rfl wr _ _ _ _ hO1 hE1 hlen rfl rfl ?_; intro v2 w2 hO2 hE2)
            | (at_builtin; refine wp_appends slI rfl _ _ rfl wr _ _ _ _ _ hO0 hI0 hE00 hlen0 rfl rfl ?_; intro v1 w1 hO1 hE1; simp only [List.nil_append] at hO1)
            | (go_at_call 110; refine (hcB _ _ hO2.ints).mono ?_; rintro e w3 ⟨rfl, hE3⟩))
          go_roundw
          case rel => exact ⟨n + 1, by omega, by omega, by go_num, by rw [He.out]; exact HO.out.ext (hE2.trans hE3), hEr.trans (hE2.trans hE3)⟩
          case measure => (simp [intOf]; omega)
      · have He : Hid (colS (f + 1) k c u = colSto f k c u n) := Lib.hid (by rw [colS_succ, show min k (u + 1) = n by omega])
        clear hO
        by_cases h1 : n < k
        · have h2 : ¬ n ≤ u := by omega
          clear hlt
          go_wp2_with fail
          go_ret
          exact ⟨_, rfl, by rw [He.out]; exact HO.out, hEr⟩
        · clear hlt
          go_wp2_with fail
          go_ret
          exact ⟨_, rfl, by rw [He.out]; exact HO.out, hEr⟩
end Go.Zz
