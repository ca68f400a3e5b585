/- Tilings: the search of the program, a closure. -/
import Derived.Test.YtopmhjmjmdohhaaC74
import Derived.Test.YtopmhjmjmdohhaaFr
namespace Go.Zz
open Go.RowKit Go.Proofs
set_option maxHeartbeats 2000000
set_option maxRecDepth 4000

theorem tl_any (v : Value) (l : List Int) (a m : Nat) (Hgr : Hid (isGrp l = true)) (ha0 : a ≠ 0) (ha : a < 2 ^ ord l) (hm : m ≤ 1000) (W0 : World) (bG bO bA bM bT : Nat) (hbt : bO ≠ bT) (hbO : W0.heap.size ≤ bO) (fn : Value)
    (HG : ∀ W, Ext W0 W → W.cell? ⟨bG, 0, none⟩ = some v) (HA : ∀ W, Ext W0 W → W.cell? ⟨bA, 0, none⟩ = some (.int .i64 a)) (HM : ∀ W, Ext W0 W → W.cell? ⟨bM, 0, none⟩ = some (.int .i64 m)) (HI : Hid (∀ W, Ext W0 W → Ints W v l))
    (hfn : fn = .func (.func 118) #[] #[.pointer (some ⟨bG, 0, none⟩), .pointer (some ⟨bO, 0, none⟩), .pointer (some ⟨bA, 0, none⟩), .pointer (some ⟨bM, 0, none⟩), .pointer (some ⟨bT, 0, none⟩)]) :
    ∀ (f u b : Nat) (w : World) (vo : Value) (out : List Nat), ord l < cnt u + f → u < 2 ^ ord l → b < 2 ^ 24 → out.length < m → Ext W0 w → Blk w bO 22 #[vo] → Own 3 W0 w vo (castL out) → Blk w bT 98 #[fn] →
    Calls Try.prog 118 #[.int .i64 b, .int .i64 u, .pointer (some ⟨bG, 0, none⟩), .pointer (some ⟨bO, 0, none⟩), .pointer (some ⟨bA, 0, none⟩), .pointer (some ⟨bM, 0, none⟩), .pointer (some ⟨bT, 0, none⟩)] w fun e w' =>
      e = .returned (.tuple #[]) ∧ ∃ vo', Blk w' bO 22 #[vo'] ∧ Own 3 W0 w' vo' (castL (tlI l a m f u b out)) ∧ Fr bO vo.ownBlock w w' ∧ Nw vo.ownBlock w vo'.ownBlock := by
  intro f
  induction f with
  | zero => intro u b w vo out hf hu; have := cnt_ord Hgr.out hu; omega
  | succ f ih =>
    intro u b w vo out hf hu hb24 hom hE0 hBO hO hBT
    rw [hfn] at hBT
    have hob := ord_bd Hgr.out
    have hp24 := pow_ord Hgr.out
    have ha24 : a < 2 ^ 24 := Nat.lt_of_lt_of_le ha hp24
    have hu24 : u < 2 ^ 24 := Nat.lt_of_lt_of_le hu hp24
    have hTO := own_not hO hBT (by decide)
    have hOO := own_not hO hBO (by decide)
    obtain ⟨ao, co, rfl, -⟩ := hO.shape
    rw [castL_len] at hO hBO hTO hOO ⊢
    rw [hfn] at ih
    have Hih := Lib.hid ih
    clear ih
    by_cases hfull : u = fullN l
    · have He := Lib.hid (tlI_full (l := l) (a := a) (m := m) (f := f) (b := b) (out := out) hfull)
      have hq : ((u : Int) == (fullN l : Int)) = true := by rw [hfull]; simp
      have Hc : Hid (castL (out ++ [b]) = castL out ++ [(b : Int)]) := Lib.hid (by simp [castL])
      clear hfull
      have hlen : (castL out).length < 17592186044416 := by rw [castL_len]; omega
      have kO : ∀ W, Ext w W → W.cell? ⟨bO, 0, none⟩ = some (.slice ao out.length co) := fun W hW => (hBO.ext hW).cell (i := 0) rfl
      go_enter Try.func118, Try.ntmps118
      go_wp2_with (first
        | (go_at_call 119; refine (FullSet_grp _ _ _ (HI.out _ hE0) Hgr).mono ?_; rintro e w1 ⟨rfl, hE1⟩)
        | (at_builtin; refine wp_append1F slI rfl _ _ rfl W0 _ _ _ _ (hO.ext hE1) (hE0.trans hE1) hlen rfl rfl ?_; intro v2 w2 hO2 hG2 hN2; have hB2 := hBO.ext hE1; replace hB2 := hB2.grown hG2 (fun k hk e => hOO (by rw [hk, e])); have hc2 := hB2.cell (i := 0) (v := .slice ao out.length co) rfl; have hf2 := hB2.free 0; obtain ⟨a2, c2, rfl, -⟩ := hO2.shape; obtain ⟨n2, hn2⟩ : ∃ n, n = (castL out ++ [(b : Int)]).length := ⟨_, rfl⟩; rw [← hn2] at hO2 hN2 ⊢; replace hn2 := Lib.hid hn2))
      have hF2 := ((hE1.fr bO (Value.slice ao out.length co).ownBlock).trans (Nw.refl _ _) (fr_grown hG2)).trans (Nw.refl _ _) (fr_set bO _ w2 0 (.slice a2 n2 c2))
      have hB3 : Blk (w2.setCell ⟨bO, 0, none⟩ (.slice a2 n2 c2)) bO 22 #[.slice a2 n2 c2] := hB2.set 0 (.slice a2 n2 c2)
      have hO3 := (fr_set bO none w2 0 (.slice a2 n2 c2)).own hO2 (own_not hO2 hB2 (by decide)) (by cases hq : (Value.slice a2 n2 c2).ownBlock with
        | none => exact Or.inl rfl
        | some k => exact Or.inr (by simp))
      exact bodyPost_ret (v := .tuple #[]) (by simp [results, Try.results118, go_sem]) rfl ⟨rfl, _, hB3, by rw [He.out, Hc.out]; exact hO3, hF2, (Nw.refl _ _).trans hE1.size hN2⟩
    · have hq : ((u : Int) == (fullN l : Int)) = false := by rw [beq_eq_false_iff_ne]; omega
      have Hnf := Lib.hid hfull
      clear hfull
      go_enter Try.func118, Try.ntmps118
      go_wp2_with (go_at_call 119; refine (FullSet_grp _ _ _ (HI.out _ hE0) Hgr).mono ?_; rintro e w1 ⟨rfl, hE1⟩)
      have hE01 := hE0.trans hE1
      go_loop [9] (fun xv => ∃ e : Nat, e ≤ ord l ∧ xv = .int .i64 e ∧ ∀ j, j < e → u.testBit j = true) (fun x => ord l - (intOf x).toNat)
      case atStart => exact ⟨0, by omega, rfl, by omega⟩
      case round =>
        obtain ⟨e, he, rfl, hall⟩ := hrel
        cases hbe : u.testBit e
        · have helt : e < ord l := Classical.byContradiction fun hn => Hnf.out (not_full hu hall (by omega))
          have hlow : Hid (lowZ u = e) := Lib.hid (lowZ_is hall hbe (by omega))
          have hcN := in_val u e hu24 (by omega) w1 hbe
          clear hall hbe
          go_wp2_with (first | (go_at_call 90; refine hcN.mono ?_; rintro e' w' ⟨rfl, hw'⟩; subst hw') | (go_at_call 100; refine (members_any a ha24 _).mono ?_; rintro e2 w2 ⟨v2, rfl, hL, hE2⟩; obtain ⟨aoL, cL, adrL, rfl, hadrL, hcellL⟩ := hL.ints.nats))
          have hixL := ints_index (c := cL) elI szI hadrL
          have hE12 := hE1.trans hE2
          have hE02 := hE01.trans hE2
          have hB2 := hBO.ext hE12
          have hO2 := hO.ext hE12
          have hT2 := hBT.ext hE12
          have hnL1 := own_nb hL (Nat.lt_of_lt_of_le hBO.lt hE1.size)
          have hnL2 : (Value.slice aoL (elems a).length cL).ownBlock = none ∨ (Value.slice aoL (elems a).length cL).ownBlock ≠ (Value.slice ao out.length co).ownBlock := by
            cases hq : (Value.slice aoL (elems a).length cL).ownBlock with
            | none => exact Or.inl rfl
            | some j => exact Or.inr fun e => by have h1 := (hL.blk j hq).1; have h2 := (hO.blk j e.symm).2; have := hE1.size; omega
          have hL24 : ∀ y ∈ elems a, y < 24 := fun y hy => elems_lt hy
          have hlenL := elems_len a
          have hoB : ∀ j, (Value.slice ao out.length co).ownBlock = some j → W0.heap.size ≤ j := fun j hj => (hO.blk j hj).1
          clear hO hBO hBT hcellL
          obtain ⟨oB, hoBd⟩ : ∃ oB, oB = (Value.slice ao out.length co).ownBlock := ⟨_, rfl⟩
          have HL := Lib.hid hL
          have HnL2 := Lib.hid hnL2
          have HN12 := Lib.hid hE12
          have HadrL := Lib.hid hadrL
          clear hL hnL2 hadrL
          go_loopw [30] (fun i wr => ∃ (k : Nat) (vo' : Value), k ≤ (elems a).length ∧ i = .int .i64 k ∧ Blk wr bO 22 #[vo'] ∧ Own 3 W0 wr vo' (castL (tlIto l a m f u b out k)) ∧ Fr bO (Value.slice ao out.length co).ownBlock w2 wr ∧ Nw (Value.slice ao out.length co).ownBlock w2 vo'.ownBlock) (fun i _ => (elems a).length - (intOf i).toNat)
          case atStart => exact ⟨0, _, by omega, rfl, hB2, hO2, Fr.refl _ _ _, Nw.refl _ _⟩
          case round =>
            clear hB2 hO2
            obtain ⟨k, vo', hk, rfl, hBr, hOr, hFr, hNr⟩ := hrel
            have hE0r := hFr.ext hE02 hbO hoB
            have hTr := hFr.blk hT2 (Ne.symm hbt) hTO
            have HLr := Lib.hid (hFr.own HL.out hnL1 HnL2.out)
            have HFr := Lib.hid hFr
            have HNr := Lib.hid hNr
            clear hFr hNr
            obtain ⟨ab, cb, rfl, -⟩ := hOr.shape
            obtain ⟨O, hOd⟩ : ∃ O, O = tlIto l a m f u b out k := ⟨_, rfl⟩
            rw [← hOd] at hOr hBr HNr
            rw [castL_len] at hOr hBr HNr
            by_cases hlt : k < (elems a).length
            · have hX24 := hL24 _ (nthN_mem hlt)
              have Hel : Hid ((elems a)[k] = nthN (elems a) k) := Lib.hid (by simp [nthN, List.getD, hlt])
              have hck : wr.cell? (adrL k) = some (.int .i64 (nthN (elems a) k : Int)) := by
                obtain ⟨ao2, c2, hv, -, -, hc⟩ := HLr.out.ints
                rw [castL_len] at hc hv
                simp only [Value.slice.injEq] at hv
                obtain ⟨a2, ha2, hc2⟩ := hc k hlt
                obtain ⟨h1, h2⟩ := HadrL.out k hlt
                rw [nth_castL] at hc2
                rw [← hv.1, h1] at ha2
                simp only [Option.some.injEq] at ha2
                rw [h2, ha2]; exact hc2
              obtain ⟨X, hX⟩ : ∃ X, X = nthN (elems a) k := ⟨_, rfl⟩
              rw [← hX] at hck hX24 Hel
              have hng : negF l X < 16777216 := by have := negF_lt l (isGrp_ords Hgr.out) X; omega
              have hD24 : addF l e (negF l X) < 24 := Nat.lt_of_lt_of_le (addF_lt l (isGrp_ords Hgr.out) _ _) hob.2
              have HD : Hid (dF l u X = addF l e (negF l X)) := Lib.hid (by unfold dF; rw [hlow.out])
              obtain ⟨D, hD⟩ : ∃ D, D = addF l e (negF l X) := ⟨_, rfl⟩
              have hcA := fun W (hW : Ext wr W) => minus_any v l e X W (HI.out _ (hE0r.trans hW)) Hgr (by omega) hX24
              rw [← hD] at hcA hD24 HD
              have hS24 := shiftF_bd Hgr.out a D
              obtain ⟨S, hS⟩ : ∃ S, S = shiftF l a D := ⟨_, rfl⟩
              have hcS := fun W (hW : Ext wr W) => shift_any v l a D W (HI.out _ (hE0r.trans hW)) Hgr ha24 hD24
              rw [← hS] at hcS hS24
              have hand : iand (S : Int) (u : Int) = ((S &&& u : Nat) : Int) := iand_nat (by omega) (by omega)
              clear hX hD HLr
              cases hz : (((S &&& u : Nat) : Int) == 0)
              · have Hn : Hid (tlIto l a m f u b out (k + 1) = O) := Lib.hid (by
                  rw [tlIto_no hlt, hOd]
                  rw [Hel.out, HD.out, ← hS]
                  rw [beq_eq_false_iff_ne] at hz; omega)
                clear hOd hS
                go_wp2_with (first | (go_at_call 120; refine (hcA _ (Ext.refl _)).mono ?_; rintro e3 w3 ⟨rfl, hE3⟩; have hE03 := hE0r.trans hE3) | (go_at_call 114; refine (hcS _ hE3).mono ?_; rintro e4 w4 ⟨rfl, hE4⟩; have hE04 := hE03.trans hE4; have hE34 := hE3.trans hE4))
                go_roundw
                case rel => exact ⟨k + 1, _, by omega, by go_num, hBr.ext hE34, by rw [Hn.out]; exact hOr.ext hE34, HFr.out.trans HNr.out (hE34.fr _ _), HNr.out⟩
                case measure => (simp [intOf]; omega)
              · have hz' : S &&& u = 0 := by rw [beq_iff_eq] at hz; omega
                have kO : ∀ W, Ext wr W → W.cell? ⟨bO, 0, none⟩ = some (.slice ab O.length cb) := fun W hW => (hBr.ext hW).cell (i := 0) rfl
                by_cases hlm : (O.length : Int) < (m : Int)
                · have hmore := tl_more Hgr.out ha0 ha hu D (by rw [← hS]; exact hz')
                  rw [← hS] at hmore
                  have Hn : Hid (tlIto l a m f u b out (k + 1) = tlI l a m f (u ||| S) (b ||| 2 ^ D) O) := Lib.hid (by
                    have := tlIto_yes (l := l) (a := a) (m := m) (f := f) (u := u) (b := b) (out := out) hlt (by rw [Hel.out, HD.out, ← hS]; exact hz') (by rw [← hOd]; omega)
                    rw [this, ← hOd, Hel.out, HD.out, ← hS])
                  have hbd : b ||| 2 ^ D < 2 ^ 24 := Nat.or_lt_two_pow hb24 (Nat.pow_lt_pow_right (by omega) hD24)
                  have hcR := fun W (hE : Ext wr W) => Hih.out (u ||| S) (b ||| 2 ^ D) W (.slice ab O.length cb) O (by omega) hmore.1 hbd (by omega) (hE0r.trans hE) (hBr.ext hE) (hOr.ext hE) (hTr.ext hE)
                  have hs0 : ior (u : Int) (S : Int) = ((u ||| S : Nat) : Int) := ior_nat (by omega) (by omega)
                  have hs1 := ishl_one (n := D) (by omega)
                  have hs2 := ior_pw hb24 hD24
                  have kt : ∀ W, Ext wr W → W.cell? ⟨bT, 0, none⟩ = some (.func (.func 118) #[] #[.pointer (some ⟨bG, 0, none⟩), .pointer (some ⟨bO, 0, none⟩), .pointer (some ⟨bA, 0, none⟩), .pointer (some ⟨bM, 0, none⟩), .pointer (some ⟨bT, 0, none⟩)]) := fun W hW => (hTr.ext hW).cell (i := 0) rfl
                  clear hOd hS hmore hbd hz'
                  go_wp2_with (first | (go_at_call 120; refine (hcA _ (Ext.refl _)).mono ?_; rintro e3 w3 ⟨rfl, hE3⟩; have hE03 := hE0r.trans hE3) | (go_at_call 114; refine (hcS _ hE3).mono ?_; rintro e4 w4 ⟨rfl, hE4⟩; have hE04 := hE03.trans hE4; have hE34 := hE3.trans hE4))
                  have hD0 := (Ext.refl w4).drew
                  first | (go_region_held3 (fun W => W.cell? ⟨bT, 0, none⟩ = some (.func (.func 118) #[] #[.pointer (some ⟨bG, 0, none⟩), .pointer (some ⟨bO, 0, none⟩), .pointer (some ⟨bA, 0, none⟩), .pointer (some ⟨bM, 0, none⟩), .pointer (some ⟨bT, 0, none⟩)])) (first | exact hT5.cell (i := 0) rfl | exact kt _ (by repeat (first | assumption | exact Ext.refl _ | (apply And.left; assumption) | apply Ext.drew | apply Ext.alloc))) (first | (go_at_call 118; ((with_reducible refine Calls.mono (hcR _ (by repeat (first | assumption | exact Ext.refl _ | (apply And.left; assumption) | apply Ext.drew | apply Ext.alloc))) ?_); rintro eH w5 ⟨rfl, vo5, hB5, hO5, hF5, hN5⟩; have hT5 := hF5.blk (hTr.ext (by repeat (first | assumption | exact Ext.refl _ | (apply And.left; assumption) | apply Ext.drew | apply Ext.alloc))) (Ne.symm hbt) (own_not (hOr.ext (by repeat (first | assumption | exact Ext.refl _ | (apply And.left; assumption) | apply Ext.drew | apply Ext.alloc))) (hTr.ext (by repeat (first | assumption | exact Ext.refl _ | (apply And.left; assumption) | apply Ext.drew | apply Ext.alloc))) (by decide)))))) | (fail "the region")
                  go_wp2_with fail
                  go_roundw
                  case rel => exact ⟨k + 1, vo5, by omega, by go_num, hB5, by rw [Hn.out]; exact hO5, HFr.out.trans HNr.out ((hE34.drew.fr _ _).trans (Nw.refl _ _) hF5), HNr.out.trans (Nat.le_trans HFr.out.size hE34.drew.size) hN5⟩
                  case measure => (simp [intOf]; omega)
                · have Hn : Hid (tlIto l a m f u b out (k + 1) = O) := Lib.hid (by
                    rw [tlIto_no hlt, hOd]
                    rw [← hOd]; omega)
                  clear hOd hS hz'
                  go_wp2_with (first | (go_at_call 120; refine (hcA _ (Ext.refl _)).mono ?_; rintro e3 w3 ⟨rfl, hE3⟩; have hE03 := hE0r.trans hE3) | (go_at_call 114; refine (hcS _ hE3).mono ?_; rintro e4 w4 ⟨rfl, hE4⟩; have hE04 := hE03.trans hE4; have hE34 := hE3.trans hE4))
                  go_roundw
                  case rel => exact ⟨k + 1, _, by omega, by go_num, hBr.ext hE34, by rw [Hn.out]; exact hOr.ext hE34, HFr.out.trans HNr.out (hE34.fr _ _), HNr.out⟩
                  case measure => (simp [intOf]; omega)
            · have Hn : Hid (tlI l a m (f + 1) u b out = O) := Lib.hid (by rw [hOd, tlI_end Hnf.out, show k = (elems a).length by omega])
              clear hOd
              go_wp2_with fail
              go_end0
              exact ⟨rfl, _, hBr, by rw [Hn.out]; exact hOr, (HN12.out.fr _ _).trans (Nw.refl _ _) HFr.out, (Nw.refl _ _).trans HN12.out.size HNr.out⟩
        · have helt := bit_lt hu hbe
          have hcN := in_val u e hu24 (by omega) w1 hbe
          go_wp2_with (refine hcN.mono ?_; rintro e' w' ⟨rfl, hw'⟩; subst hw')
          go_round
          case rel => exact ⟨e + 1, by omega, by go_num, fun j hj => by by_cases hje : j = e; (subst hje; exact hbe); exact hall j (by omega)⟩
          case measure => (simp [intOf]; omega)
end Go.Zz
