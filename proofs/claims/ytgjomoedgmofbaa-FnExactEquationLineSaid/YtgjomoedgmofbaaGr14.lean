/- Solutions of one color, colorings and Rado numbers: the reference. -/
import Derived.Test.YtgjomoedgmofbaaGr13
namespace Go.Zz
open Go.RowKit Go.Proofs
set_option maxHeartbeats 2000000
set_option maxRecDepth 8000

theorem sSolutionsIn_yes (u : Value) (c : List Int) (n : Nat) (w : World) (hu : Ints w u c) (he : eqB c = true) (hn : n ≤ 8) :
    Calls Try.prog 124 #[u, .int .i64 n] w fun e w' => ∃ v', e = .returned (.tuple #[v', .bool true]) ∧ OwnV w w' v' (cntF c n [] c.length []) ∧ Ext w w' := by
  have cE := fun W (hW : Ext w W) => l25Fine_any u c W (hu.ext hW)
  rw [he] at cE
  have hin : inB (n : Int) 0 8 = true := inB_t.2 (by omega)
  have cW := fun W => l1In_any (n : Int) 0 8 W
  rw [hin] at cW
  have hcN : cntF c n [] c.length [] ≤ 4096 := by
    have h1 := cntF_le c n [] c.length []
    have h2 : n ^ c.length ≤ 8 ^ c.length := Nat.pow_le_pow_left hn _
    have h3 : 8 ^ c.length ≤ 8 ^ 4 := Nat.pow_le_pow_right (by omega) (eqB_yes he).2.1
    omega
  have HU := Lib.hid hu
  have He := Lib.hid he
  have hmn : min (cntF c n [] c.length []) 10000 = cntF c n [] c.length [] := by omega
  have cF := fun (W : World) (hW : Ext w W) (v1 v2 : Value) (h1 : Ints W v1 []) (h2 : Ints W v2 (castL [])) => l25Find_any c [] n He (by omega) (Or.inl rfl) c.length [] 10000 W u v1 v2 (HU.out.ext hW) h1 h2 (by simp) (by simp) (by omega) (by omega)
  simp only [hmn, show ((10000 : Nat) : Int) = 10000 from rfl] at cF
  clear hmn hu he hin
  go_enter Try.func124, Try.ntmps124
  go_wp2_with fail
  refine (cE _ (Ext.refl _)).mono ?_
  rintro e w1 ⟨rfl, hE1⟩
  have hO0 : Own 3 w (w1.alloc (.cells #[] 3)) (.slice (some ⟨w1.heap.size, 0, none⟩) 0 0) [] := own_made (TI := 3) (n := 0) (by omega) hE1 [] rfl
  have hE2 := hE1.alloc (.cells #[] 3)
  have hO1 : Own 3 w ((w1.alloc (.cells #[] 3)).alloc (.cells #[] 3)) (.slice (some ⟨w1.heap.size + 1, 0, none⟩) 0 0) (castL []) := by
    have := own_made (TI := 3) (n := 0) (by omega) hE2 [] rfl
    simpa [castL] using this
  have hE3 := hE2.alloc (.cells #[] 3)
  have cF1 := cF _ hE3 _ _ (hO0.ints.ext ((Ext.refl _).alloc _)) hO1.ints
  clear cF cE
  go_wp2_with (first | (refine (cW _).mono ?_; rintro e w' ⟨rfl, rfl⟩) | (refine cF1.mono ?_; rintro e w4 ⟨v4, rfl, hO4, hE4⟩) | (go_at_call 216; refine cF1.mono ?_; rintro e w4 ⟨v4, rfl, hO4, hE4⟩))
  exact bodyPost_ret (v := .tuple #[v4, .bool true]) (by simp [results, Try.results124, go_sem]) rfl ⟨_, rfl, hO4.mono hE3, hE3.trans hE4⟩
theorem sMonochromeSolution_yes (u vs : Value) (c cs : List Int) (w : World) (hu : Ints w u c) (hv : Ints w vs cs) (he : eqB c = true) (h1 : 1 ≤ cs.length) (h12 : cs.length ≤ 12) :
    Calls Try.prog 252 #[u, vs] w fun e w' => ∃ v', e = .returned (.tuple #[v', .bool (monoB c cs)]) ∧ Ext w w' := by
  have cE := fun W (hW : Ext w W) => l25Fine_any u c W (hu.ext hW)
  rw [he] at cE
  have HU := Lib.hid hu
  have HV := Lib.hid hv
  have He := Lib.hid he
  have hne : cs ≠ [] := fun e => by rw [e] at h1; simp at h1
  have hq0 : ((cs.length : Int) == 0) = false := by rw [beq_eq_false_iff_ne]; omega
  have hq12 : ¬ (12 : Int) < (cs.length : Int) := by omega
  obtain ⟨aos, css, rfl, -⟩ := hv
  have cF := fun (W : World) (hW : Ext w W) (v2 : Value) (h2 : Ints W v2 (castL [])) => l25Find_any c cs cs.length He h12 (Or.inr (Nat.le_refl _)) c.length [] 1 W u (.slice aos cs.length css) v2 (HU.out.ext hW) (HV.out.ext hW) h2 (by simp) (by simp) (by omega) (by omega)
  obtain ⟨m, hm⟩ : ∃ m, m = min (cntF c cs.length cs c.length []) 1 := ⟨_, rfl⟩
  simp only [← hm, show ((1 : Nat) : Int) = 1 from rfl] at cF
  have hM : Hid ((monoB c cs = true → m = 1) ∧ (monoB c cs = false → m = 0)) := Lib.hid (by
    have := mono_cnt (c := c) hne
    constructor
    · intro h; have := this.2 h; omega
    · intro h
      have h0 : ¬ 0 < cntF c cs.length cs c.length [] := fun e => by rw [this.1 e] at h; cases h
      omega)
  clear hm hu he hne h1
  cases hb : monoB c cs
  · have hm0 := hM.out.2 hb
    subst hm0
    have Hb := Lib.hid hb
    have hqm : (((0 : Nat) : Int) == 0) = true := rfl
    clear hb
    go_enter Try.func252, Try.ntmps252
    go_wp2_with fail
    refine (cE _ (Ext.refl _)).mono ?_
    rintro e w1 ⟨rfl, hE1⟩
    have hO0 : Own 3 w (w1.alloc (.cells #[] 3)) (.slice (some ⟨w1.heap.size, 0, none⟩) 0 0) (castL []) := own_made (TI := 3) (n := 0) (by omega) hE1 (castL []) rfl
    have hE2 := hE1.alloc (.cells #[] 3)
    have cF1 := cF _ hE2 _ hO0.ints
    clear cF cE
    go_wp2_with (first | (refine cF1.mono ?_; rintro e w4 ⟨v4, rfl, hO4, hE4⟩; obtain ⟨a4, c4, rfl, -, hcl4⟩ := hO4.shape; have hE04 := hE2.trans hE4) | (go_at_call 216; refine cF1.mono ?_; rintro e w4 ⟨v4, rfl, hO4, hE4⟩; obtain ⟨a4, c4, rfl, -, hcl4⟩ := hO4.shape; have hE04 := hE2.trans hE4))
    exact bodyPost_ret (v := .tuple #[.slice (some ⟨w4.heap.size, 0, none⟩) 0 0, .bool false]) (by simp [results, Try.results252, go_sem]) rfl ⟨_, rfl, hE04.alloc _⟩
  · have hm1 := hM.out.1 hb
    subst hm1
    have Hb := Lib.hid hb
    have hqm : (((1 : Nat) : Int) == 0) = false := rfl
    clear hb
    have hix0 : ∀ (g c4 : Nat) W, (Instr.indexAt 88 (.slice (some ⟨g, 0, none⟩) 1 c4) (.int .i64 0)).run Try.prog W = .ok (.pointer (some ⟨g, 0, none⟩)) W := fun g c4 W => by
      have := ints_index (P := Try.prog) (ao := some ⟨g, 0, none⟩) (n := 1) (c := c4) (adr := fun i => ⟨g, i, none⟩) elV szV (fun i _ => ⟨rfl, by simp [Addr.add]⟩) 0 W (by omega)
      exact this
    go_enter Try.func252, Try.ntmps252
    go_wp2_with fail
    refine (cE _ (Ext.refl _)).mono ?_
    rintro e w1 ⟨rfl, hE1⟩
    have hO0 : Own 3 w (w1.alloc (.cells #[] 3)) (.slice (some ⟨w1.heap.size, 0, none⟩) 0 0) (castL []) := own_made (TI := 3) (n := 0) (by omega) hE1 (castL []) rfl
    have hE2 := hE1.alloc (.cells #[] 3)
    have cF1 := cF _ hE2 _ hO0.ints
    clear cF cE
    go_wp2_with (first | (refine cF1.mono ?_; rintro e w4 ⟨v4, rfl, hO4, hE4⟩; obtain ⟨a4, c4, rfl, -, hcl4⟩ := hO4.shape; have hE04 := hE2.trans hE4; obtain ⟨g, x, rfl, hcx⟩ := hcl4 0 (by omega); have hix := hix0 g c4) | (go_at_call 216; refine cF1.mono ?_; rintro e w4 ⟨v4, rfl, hO4, hE4⟩; obtain ⟨a4, c4, rfl, -, hcl4⟩ := hO4.shape; have hE04 := hE2.trans hE4; obtain ⟨g, x, rfl, hcx⟩ := hcl4 0 (by omega); have hix := hix0 g c4))
    exact bodyPost_ret (v := .tuple #[x, .bool true]) (by simp [results, Try.results252, go_sem]) rfl ⟨_, rfl, hE04⟩
end Go.Zz

/- Colorings without a solution and Rado numbers: the reference. -/
namespace Go.Zz
open Go.RowKit Go.Proofs
set_option maxHeartbeats 2000000
set_option maxRecDepth 8000

theorem any2_no {f : Nat → Bool} (h : ∀ j, j < 2 → f j = false) : (List.range 2).any f = false := by
  rw [List.any_eq_false]; intro j hj; rw [h j (List.mem_range.1 hj)]; simp
theorem any2_hit {f : Nat → Bool} {j : Nat} (hj : j < 2) (h : f j = true) : (List.range 2).any f = true := by
  rw [List.any_eq_true]; exact ⟨j, List.mem_range.2 hj, h⟩
theorem l25Avoids_any (c : List Int) (n : Nat) (He : Hid (eqB c = true)) (hn1 : 1 ≤ n) (hn : n ≤ 9) : ∀ f (cs : List Int), cs.length ≤ n → n < cs.length + f → ∀ (w : World) (u vs : Value), Ints w u c → Ints w vs cs →
    Calls Try.prog 217 #[u, .int .i64 2, .int .i64 n, vs] w fun e w' => e = .returned (.bool (avF c 2 n f cs)) ∧ Ext w w' := by
  intro f
  induction f with
  | zero => intro cs h1 h2; omega
  | succ f ih =>
    intro cs hl1 hl2 w u vs hu hv
    have HU := Lib.hid hu
    have HV := Lib.hid hv
    have Hih := Lib.hid ih
    obtain ⟨aos, css, rfl, -⟩ := hv
    have hE0 := Ext.refl w
    clear ih hu
    by_cases hc0 : 0 < cs.length
    rotate_left
    · have hcs : cs = [] := List.eq_nil_of_length_eq_zero (by omega)
      have hc0I : ¬ (0 : Int) < (cs.length : Int) := by omega
      have hnl : ¬ cs.length = n := by omega
      have hq : ((cs.length : Int) == (n : Int)) = false := by rw [beq_eq_false_iff_ne]; omega
      have Hmo : Hid ((decide (cs ≠ []) && monoB c cs) = false) := Lib.hid (by rw [hcs]; simp)
      clear hcs
      go_enter Try.func217, Try.ntmps217
      go_wp2_with fail
      have Hpt : Hid (avF c 2 n (f + 1) cs = (List.range 2).any (fun x => avF c 2 n f (cs ++ [(x : Int)]))) := Lib.hid (avF_part Hmo.out hnl)
      go_loopw [11] (fun sx wr => ∃ x : Nat, x ≤ 2 ∧ sx = .int .i64 x ∧ Ext w wr ∧ Hid (∀ j, j < x → avF c 2 n f (cs ++ [(j : Int)]) = false)) (fun sx _ => 2 - (intOf sx).toNat)
      case atStart => exact ⟨0, by omega, rfl, hE0, Lib.hid fun j hj => absurd hj (by omega)⟩
      case round =>
        rename World => wr
        obtain ⟨x, hx, rfl, hE, HN⟩ := hrel
        by_cases hlt : x < 2
        · have hltI : (x : Int) < 2 := by omega
          have hO0 : Own 3 w (wr.alloc (.cells #[] 3)) (.slice (some ⟨wr.heap.size, 0, none⟩) 0 0) [] := own_made (TI := 3) (n := 0) (by omega) hE [] rfl
          have hE00 := hE.alloc (.cells #[] 3)
          have hI0 := HV.out.ext hE00
          have hlen0 : ([] : List Int).length + cs.length ≤ 17592186044416 := by simp; omega
          have hlen1 : cs.length < 17592186044416 := by omega
          have HR : Hid (∀ R, R = avF c 2 n f (cs ++ [(x : Int)]) → True) := Lib.hid fun _ _ => trivial
          obtain ⟨R, hR⟩ : ∃ R, R = avF c 2 n f (cs ++ [(x : Int)]) := ⟨_, rfl⟩
          have HRd := Lib.hid hR
          have cA := fun (W : World) (hW : Ext w W) (v2 : Value) (h2 : Ints W v2 (cs ++ [(x : Int)])) => Hih.out (cs ++ [(x : Int)]) (by rw [List.length_append, List.length_singleton]; omega) (by rw [List.length_append, List.length_singleton]; omega) W u v2 (HU.out.ext hW) h2
          rw [← hR] at cA
          clear hR HR hE
          cases R
          · go_wp2_with (first
              | (at_builtin; refine wp_append1 slI rfl _ _ rfl w _ _ _ _ hO1 hE1 hlen1 rfl rfl ?_; intro v2 w2 hO2 hE2)
              | (at_builtin; refine wp_appends slI rfl _ _ rfl w _ _ _ _ _ hO0 hI0 hE00 hlen0 rfl rfl ?_; intro v1 w1 hO1 hE1; simp only [List.nil_append] at hO1)
              | (go_at_call 217; refine (cA _ hE2 _ hO2.ints).mono ?_; rintro e w3 ⟨rfl, hE3⟩))
            go_roundw
            case rel => exact ⟨x + 1, by omega, by go_num, hE2.trans hE3, Lib.hid fun j hj => by by_cases q : j = x; (rw [q]; exact HRd.out.symm); exact HN.out j (by omega)⟩
            case measure => (simp [intOf]; omega)
          · have Hf : Hid (avF c 2 n (f + 1) cs = true) := Lib.hid (by rw [Hpt.out]; exact any2_hit hlt HRd.out.symm)
            go_wp2_with (first
              | (at_builtin; refine wp_append1 slI rfl _ _ rfl w _ _ _ _ hO1 hE1 hlen1 rfl rfl ?_; intro v2 w2 hO2 hE2)
              | (at_builtin; refine wp_appends slI rfl _ _ rfl w _ _ _ _ _ hO0 hI0 hE00 hlen0 rfl rfl ?_; intro v1 w1 hO1 hE1; simp only [List.nil_append] at hO1)
              | (go_at_call 217; refine (cA _ hE2 _ hO2.ints).mono ?_; rintro e w3 ⟨rfl, hE3⟩))
            go_ret
            exact ⟨ret_bool Hf.out.symm, hE2.trans hE3⟩
        · have hltI : ¬ (x : Int) < 2 := by omega
          have Hf : Hid (avF c 2 n (f + 1) cs = false) := Lib.hid (by rw [Hpt.out]; exact any2_no fun j hj => HN.out j (by omega))
          go_wp2_with fail
          go_ret
          exact ⟨ret_bool Hf.out.symm, hE⟩
    have hc0I : (0 : Int) < (cs.length : Int) := by omega
    have hne : cs ≠ [] := List.length_pos_iff.1 hc0
    have cM := fun W (hW : Ext w W) => sMonochromeSolution_yes u (.slice aos cs.length css) c cs W (HU.out.ext hW) (HV.out.ext hW) He.out (by omega) (by omega)
    cases hm : monoB c cs
    · rw [hm] at cM
      have Hmo : Hid ((decide (cs ≠ []) && monoB c cs) = false) := Lib.hid (by rw [hm]; simp)
      clear hm hne
      by_cases hnl : cs.length = n
      · have hq : ((cs.length : Int) == (n : Int)) = true := by rw [beq_iff_eq]; omega
        have Hf : Hid (avF c 2 n (f + 1) cs = true) := Lib.hid (avF_full Hmo.out hnl)
        clear hnl
        go_enter Try.func217, Try.ntmps217
        go_wp2_with (go_at_call 252; refine (cM _ hE0).mono ?_; rintro e w1 ⟨v1, rfl, hE1⟩)
        go_ret
        exact ⟨ret_bool Hf.out.symm, hE1⟩
      · have hq : ((cs.length : Int) == (n : Int)) = false := by rw [beq_eq_false_iff_ne]; omega
        go_enter Try.func217, Try.ntmps217
        go_wp2_with (go_at_call 252; refine (cM _ hE0).mono ?_; rintro e w1 ⟨v1, rfl, hE1⟩)
        clear cM
        have Hpt : Hid (avF c 2 n (f + 1) cs = (List.range 2).any (fun x => avF c 2 n f (cs ++ [(x : Int)]))) := Lib.hid (avF_part Hmo.out hnl)
        go_loopw [11] (fun sx wr => ∃ x : Nat, x ≤ 2 ∧ sx = .int .i64 x ∧ Ext w wr ∧ Hid (∀ j, j < x → avF c 2 n f (cs ++ [(j : Int)]) = false)) (fun sx _ => 2 - (intOf sx).toNat)
        case atStart => exact ⟨0, by omega, rfl, hE1, Lib.hid fun j hj => absurd hj (by omega)⟩
        case round =>
          rename World => wr
          obtain ⟨x, hx, rfl, hE, HN⟩ := hrel
          by_cases hlt : x < 2
          · have hltI : (x : Int) < 2 := by omega
            have hO0 : Own 3 w (wr.alloc (.cells #[] 3)) (.slice (some ⟨wr.heap.size, 0, none⟩) 0 0) [] := own_made (TI := 3) (n := 0) (by omega) hE [] rfl
            have hE00 := hE.alloc (.cells #[] 3)
            have hI0 := HV.out.ext hE00
            have hlen0 : ([] : List Int).length + cs.length ≤ 17592186044416 := by simp; omega
            have hlen1 : cs.length < 17592186044416 := by omega
            have HR : Hid (∀ R, R = avF c 2 n f (cs ++ [(x : Int)]) → True) := Lib.hid fun _ _ => trivial
            obtain ⟨R, hR⟩ : ∃ R, R = avF c 2 n f (cs ++ [(x : Int)]) := ⟨_, rfl⟩
            have HRd := Lib.hid hR
            have cA := fun (W : World) (hW : Ext w W) (v2 : Value) (h2 : Ints W v2 (cs ++ [(x : Int)])) => Hih.out (cs ++ [(x : Int)]) (by rw [List.length_append, List.length_singleton]; omega) (by rw [List.length_append, List.length_singleton]; omega) W u v2 (HU.out.ext hW) h2
            rw [← hR] at cA
            clear hR HR hE
            cases R
            · go_wp2_with (first
                | (at_builtin; refine wp_append1 slI rfl _ _ rfl w _ _ _ _ hO1 hE1 hlen1 rfl rfl ?_; intro v2 w2 hO2 hE2)
                | (at_builtin; refine wp_appends slI rfl _ _ rfl w _ _ _ _ _ hO0 hI0 hE00 hlen0 rfl rfl ?_; intro v1 w1 hO1 hE1; simp only [List.nil_append] at hO1)
                | (go_at_call 217; refine (cA _ hE2 _ hO2.ints).mono ?_; rintro e w3 ⟨rfl, hE3⟩))
              go_roundw
              case rel => exact ⟨x + 1, by omega, by go_num, hE2.trans hE3, Lib.hid fun j hj => by by_cases q : j = x; (rw [q]; exact HRd.out.symm); exact HN.out j (by omega)⟩
              case measure => (simp [intOf]; omega)
            · have Hf : Hid (avF c 2 n (f + 1) cs = true) := Lib.hid (by rw [Hpt.out]; exact any2_hit hlt HRd.out.symm)
              go_wp2_with (first
                | (at_builtin; refine wp_append1 slI rfl _ _ rfl w _ _ _ _ hO1 hE1 hlen1 rfl rfl ?_; intro v2 w2 hO2 hE2)
                | (at_builtin; refine wp_appends slI rfl _ _ rfl w _ _ _ _ _ hO0 hI0 hE00 hlen0 rfl rfl ?_; intro v1 w1 hO1 hE1; simp only [List.nil_append] at hO1)
                | (go_at_call 217; refine (cA _ hE2 _ hO2.ints).mono ?_; rintro e w3 ⟨rfl, hE3⟩))
              go_ret
              exact ⟨ret_bool Hf.out.symm, hE2.trans hE3⟩
          · have hltI : ¬ (x : Int) < 2 := by omega
            have Hf : Hid (avF c 2 n (f + 1) cs = false) := Lib.hid (by rw [Hpt.out]; exact any2_no fun j hj => HN.out j (by omega))
            go_wp2_with fail
            go_ret
            exact ⟨ret_bool Hf.out.symm, hE⟩
    · rw [hm] at cM
      have Hf : Hid (avF c 2 n (f + 1) cs = false) := Lib.hid (avF_mono hne hm)
      clear hm hne
      go_enter Try.func217, Try.ntmps217
      go_wp2_with (go_at_call 252; refine (cM _ hE0).mono ?_; rintro e w1 ⟨v1, rfl, hE1⟩)
      go_ret
      exact ⟨ret_bool Hf.out.symm, hE1⟩
end Go.Zz

/- Rado numbers: the reference. -/
namespace Go.Zz
open Go.RowKit Go.Proofs
set_option maxHeartbeats 2000000
set_option maxRecDepth 8000

theorem sRadoNumber_any (u : Value) (c : List Int) (w : World) (hu : Ints w u c) :
    Calls Try.prog 128 #[u, .int .i64 2] w fun e w' => e = .returned (.int .i64 (radN c)) ∧ Ext w w' := by
  have cE := fun W (hW : Ext w W) => l25Fine_any u c W (hu.ext hW)
  have HU := Lib.hid hu
  obtain ⟨ao, co, rfl, -⟩ := hu
  cases he : eqB c
  · have Hr := Lib.hid (rad_no (c := c) (Or.inl he))
    rw [he] at cE
    go_enter Try.func128, Try.ntmps128
    go_wp2_with fail
    refine (cE _ (Ext.refl _)).mono ?_
    rintro e w1 ⟨rfl, hE1⟩
    go_wp2_with fail
    go_ret
    exact ⟨ret_int Hr.out.symm, hE1⟩
  · rw [he] at cE
    have h24 := eqB_yes he
    by_cases h3 : c.length ≤ 3
    rotate_left
    · have Hr := Lib.hid (rad_no (c := c) (Or.inr h3))
      have h3I : (3 : Int) < (c.length : Int) := by omega
      go_enter Try.func128, Try.ntmps128
      go_wp2_with fail
      refine (cE _ (Ext.refl _)).mono ?_
      rintro e w1 ⟨rfl, hE1⟩
      go_wp2_with fail
      go_ret
      exact ⟨ret_int Hr.out.symm, hE1⟩
    · have h3I : ¬ (3 : Int) < (c.length : Int) := by omega
      have hin : inB (2 : Int) 1 2 = true := by decide
      have cW := fun W => l1In_any (2 : Int) 1 2 W
      rw [hin] at cW
      have He := Lib.hid he
      have H3 := Lib.hid h3
      have cA := fun (n : Nat) (h1 : 1 ≤ n) (h9 : n ≤ 9) (vl : Value) (W : World) (hW : Ext w W) (hv : Ints W vl []) => l25Avoids_any c n He h1 h9 (n + 1) [] (by simp) (by simp) W (.slice ao c.length co) vl (HU.out.ext hW) hv
      have Hav := Lib.hid (fun n (hn : 1 ≤ n) => allB_av (c := c) (by omega) hn)
      clear he h24 h3
      go_enter Try.func128, Try.ntmps128
      go_wp2_with fail
      refine (cE _ (Ext.refl _)).mono ?_
      rintro e w1 ⟨rfl, hE1⟩
      go_wp2_with (refine (cW _).mono ?_; rintro e w' ⟨rfl, rfl⟩)
      clear cE cW hin
      go_loopw [5] (fun sn wr => ∃ n : Nat, 1 ≤ n ∧ n ≤ 10 ∧ sn = .int .i64 n ∧ Ext w wr ∧ Hid (∀ j, j + 1 < n → allB c (j + 1) = false)) (fun sn _ => 10 - (intOf sn).toNat)
      case atStart => exact ⟨1, by omega, by omega, rfl, hE1, Lib.hid fun j hj => absurd hj (by omega)⟩
      case round =>
        clear hE1
        rename World => wr
        obtain ⟨n, hn1, hn2, rfl, hE, HN⟩ := hrel
        by_cases h9 : n ≤ 9
        · have h9I : (n : Int) ≤ 9 := by omega
          have hO0 : Own 3 w (wr.alloc (.cells #[] 3)) (.slice (some ⟨wr.heap.size, 0, none⟩) 0 0) [] := own_made (TI := 3) (n := 0) (by omega) hE [] rfl
          have hE2 := hE.alloc (.cells #[] 3)
          have cB := cA n hn1 h9 _ _ hE2 hO0.ints
          rw [Hav.out n hn1] at cB
          cases ha : allB c n
          · rw [ha] at cB
            have Ha := Lib.hid ha
            clear ha cA hE
            go_wp2_with (go_at_call 217; refine cB.mono ?_; rintro e w3 ⟨rfl, hE3⟩)
            go_roundw
            case rel => exact ⟨n + 1, by omega, by omega, by go_num, hE2.trans hE3, Lib.hid fun i hi => by by_cases q : i + 1 = n; (rw [q]; exact Ha.out); exact HN.out i (by omega)⟩
            case measure => (simp [intOf]; omega)
          · rw [ha] at cB
            have Hr : Hid (radN c = (n : Int)) := Lib.hid (by
              have := rad_at He.out H3.out (n := n - 1) (by omega) (fun j hj => HN.out j (by omega)) (by rw [show n - 1 + 1 = n by omega]; exact ha)
              rw [this]; omega)
            clear ha cA hE
            go_wp2_with (go_at_call 217; refine cB.mono ?_; rintro e w3 ⟨rfl, hE3⟩)
            go_ret
            exact ⟨ret_int Hr.out.symm, hE2.trans hE3⟩
        · have h9I : ¬ (n : Int) ≤ 9 := by omega
          have Hr := Lib.hid (rad_none He.out H3.out fun j hj => HN.out j (by omega))
          go_wp2_with fail
          go_ret
          exact ⟨ret_int Hr.out.symm, hE⟩
end Go.Zz
