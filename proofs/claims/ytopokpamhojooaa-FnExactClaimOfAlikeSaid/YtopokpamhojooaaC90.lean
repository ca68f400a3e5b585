/- FindFreimanIso of the program: the closure try. -/
import Derived.Test.YtopokpamhojooaaC89
import Derived.StillTailTactics
namespace Go.Zz
open Go.RowKit Go.Proofs
set_option maxHeartbeats 2000000
set_option maxRecDepth 4000

theorem fiI_full {g h : List Int} {L E : List Nat} {f : Nat} {M : List Nat} (e : M.length = L.length) : fiI g h L E (f + 1) M = if isoK g h L M then some M else none := by
  conv => lhs; unfold fiI
  rw [if_pos e]
theorem fiI_part {g h : List Int} {L E : List Nat} {f : Nat} {M : List Nat} (e : M.length ≠ L.length) : fiI g h L E (f + 1) M = E.findSome? (fun y => if (bset M).testBit y then none else fiI g h L E f (M ++ [y])) := by
  conv => lhs; unfold fiI
  rw [if_neg e]
theorem andN_back {a y : Nat} (h : a.testBit y = false) : andN (a ||| 2 ^ y) (2 ^ y) = a := Nat.eq_of_testBit_eq fun i => by
  rw [andN_bit, Nat.testBit_or, Nat.testBit_two_pow]
  by_cases e : y = i
  · subst e; simp [h]
  · simp [e]
theorem Nw.ne {o o' : Option Nat} {w : World} {b : Nat} (h : Nw o w o') (hn : o ≠ some b) (hb : b < w.heap.size) : o' ≠ some b := by
  rcases h with h | h
  · rw [h]; exact hn
  · intro e; have := h b e; omega
theorem Nw.size {o o' : Option Nat} {w w1 : World} (h : Nw o w1 o') (hs : w.heap.size ≤ w1.heap.size) : Nw o w o' := by
  rcases h with h | h
  · exact Or.inl h
  · exact Or.inr fun k hk => Nat.le_trans hs (h k hk)
theorem hN1_size (w : World) (b : Nat) (v : Value) : w.heap.size ≤ (w.setCell ⟨b, 0, none⟩ v).heap.size := by simp
theorem fw_grown {o : Option Nat} {w w' : World} (a b : Nat) (h : w.grownBy w' o) : Fw (Sm a b o) w w' := ⟨h.os, h.tape, h.output, h.size, fun k hk hs => h.block k hk fun e => hs (Or.inr (Or.inr e))⟩
theorem tryF_any (v u : Value) (g h : List Int) (L E : List Nat) (aoL aoE : Option Addr) (cL cE : Nat) (Hg : Hid (isGrp g = true)) (Hh : Hid (isGrp h = true)) (hL24 : ∀ y ∈ L, y < 24) (hl5 : L.length ≤ 5) (hEo : ∀ y ∈ E, y < ord h) (hE24 : E.length ≤ 24)
    (W0 : World) (bM bL bG bH bA bU bT : Nat) (hMU : bM ≠ bU) (hTM : bT ≠ bM) (hTU : bT ≠ bU) (h0M : W0.heap.size ≤ bM) (h0U : W0.heap.size ≤ bU) (fn : Value)
    (HL : ∀ W, Ext W0 W → W.cell? ⟨bL, 0, none⟩ = some (.slice aoL L.length cL)) (HG : ∀ W, Ext W0 W → W.cell? ⟨bG, 0, none⟩ = some v) (HH : ∀ W, Ext W0 W → W.cell? ⟨bH, 0, none⟩ = some u) (HA : ∀ W, Ext W0 W → W.cell? ⟨bA, 0, none⟩ = some (.slice aoE E.length cE))
    (HI : Hid (∀ W, Ext W0 W → Ints W v g ∧ Ints W u h ∧ Ints W (.slice aoL L.length cL) (castL L) ∧ Ints W (.slice aoE E.length cE) (castL E)))
    (hfn : fn = .func (.func 110) #[] #[.pointer (some ⟨bM, 0, none⟩), .pointer (some ⟨bL, 0, none⟩), .pointer (some ⟨bG, 0, none⟩), .pointer (some ⟨bH, 0, none⟩), .pointer (some ⟨bA, 0, none⟩), .pointer (some ⟨bU, 0, none⟩), .pointer (some ⟨bT, 0, none⟩)]) :
    ∀ (f : Nat) (M : List Nat) (vM : Value) (w : World), M.length ≤ L.length → L.length < M.length + f → (∀ y ∈ M, y < ord h) → Ext W0 w → Blk w bM 22 #[vM] → Own 3 W0 w vM (castL M) → vM.ownBlock ≠ some bU → Blk w bU 3 #[.int .i64 (bset M : Nat)] → Blk w bT 89 #[fn] →
    Calls Try.prog 110 #[.pointer (some ⟨bM, 0, none⟩), .pointer (some ⟨bL, 0, none⟩), .pointer (some ⟨bG, 0, none⟩), .pointer (some ⟨bH, 0, none⟩), .pointer (some ⟨bA, 0, none⟩), .pointer (some ⟨bU, 0, none⟩), .pointer (some ⟨bT, 0, none⟩)] w fun e w' =>
      e = .returned (.bool (fiI g h L E f M).isSome) ∧ ∃ (vM' : Value) (u' : Int), Blk w' bM 22 #[vM'] ∧ Blk w' bU 3 #[.int .i64 u'] ∧ (fiI g h L E f M = none → u' = (bset M : Nat)) ∧ Own 3 W0 w' vM' (castL ((fiI g h L E f M).getD M)) ∧ Fw (Sm bM bU vM.ownBlock) w w' ∧ Nw vM.ownBlock w vM'.ownBlock := by
  intro f
  induction f with
  | zero => intro M vM w h1 h2; omega
  | succ f ih =>
  intro M vM w hml hfu hMo hE0 hBM hO hOU hBU hBT
  have hoh := ord_bd Hh.out
  have hM24 : ∀ y ∈ M, y < 24 := fun y hy => Nat.lt_of_lt_of_le (hMo y hy) hoh.2
  have hb24 := bset_lt hM24
  have hTO := own_not hO hBT (by decide)
  have hMO := own_not hO hBM (by decide)
  obtain ⟨aoM, cM, rfl, -⟩ := hO.shape
  rw [castL_len] at hO hBM hOU hTO hMO ⊢
  have Hih := Lib.hid ih
  clear ih
  have kM : ∀ W, Ext w W → W.cell? ⟨bM, 0, none⟩ = some (.slice aoM M.length cM) := fun W hW => (hBM.ext hW).cell (i := 0) rfl
  have kl : ∀ W, Ext w W → W.cell? ⟨bL, 0, none⟩ = some (.slice aoL L.length cL) := fun W hW => HL W (hE0.trans hW)
  have kg : ∀ W, Ext w W → W.cell? ⟨bG, 0, none⟩ = some v := fun W hW => HG W (hE0.trans hW)
  have kh : ∀ W, Ext w W → W.cell? ⟨bH, 0, none⟩ = some u := fun W hW => HH W (hE0.trans hW)
  have ka : ∀ W, Ext w W → W.cell? ⟨bA, 0, none⟩ = some (.slice aoE E.length cE) := fun W hW => HA W (hE0.trans hW)
  have hE := Ext.refl w
  by_cases hfull : M.length = L.length
  · have hq : (((M.length : Nat) : Int) == ((L.length : Nat) : Int)) = true := by rw [hfull]; simp
    have c1 := fun W (hW : Ext w W) => keeps_any v u g h _ _ L M W (HI.out W (hE0.trans hW)).1 (HI.out W (hE0.trans hW)).2.1 Hg Hh (HI.out W (hE0.trans hW)).2.2.1 (hO.ext hW).ints hL24 hM24 (by omega) (by omega)
    have c2 := fun W (hW : Ext w W) => keeps_any u v h g _ _ M L W (HI.out W (hE0.trans hW)).2.1 (HI.out W (hE0.trans hW)).1 Hh Hg (hO.ext hW).ints (HI.out W (hE0.trans hW)).2.2.1 hM24 hL24 (by omega) (by omega)
    have HK : Hid (fiI g h L E (f + 1) M = if kpB g h L M && kpB h g M L then some M else none) := Lib.hid (fiI_full hfull)
    have HB := Lib.hid hBM
    have HU := Lib.hid hBU
    have HO := Lib.hid hO
    clear hfull hBM hBU hO hBT
    cases k1 : kpB g h L M
    · rw [k1] at c1 HK
      clear k1
      go_enter Try.func110, Try.ntmps110
      go_wp2_with fail
      refine (c1 _ hE).mono ?_
      rintro e w1 ⟨rfl, hE1⟩
      go_wp2_with fail
      go_ret
      exact ⟨ret_bool (by rw [HK.out]; rfl), _, _, HB.out.ext hE1, HU.out.ext hE1, fun _ => rfl, by rw [HK.out]; exact HO.out.ext hE1, hE1.fw _, Nw.refl _ _⟩
    · rw [k1] at c1 HK
      clear k1
      cases k2 : kpB h g M L
      all_goals
        rw [k2] at c2 HK
        clear k2
        go_enter Try.func110, Try.ntmps110
        go_wp2_with fail
        refine (c1 _ hE).mono ?_
        rintro e w1 ⟨rfl, hE1⟩
        go_wp2_with fail
        refine (c2 _ hE1).mono ?_
        rintro e w2 ⟨rfl, hE2⟩
        have hE12 := hE1.trans hE2
        go_wp2_with fail
        go_ret
        exact ⟨ret_bool (by rw [HK.out]; rfl), _, _, HB.out.ext hE12, HU.out.ext hE12, fun _ => rfl, by rw [HK.out]; exact HO.out.ext hE12, hE12.fw _, Nw.refl _ _⟩
  · have hq : (((M.length : Nat) : Int) == ((L.length : Nat) : Int)) = false := by rw [beq_eq_false_iff_ne]; omega
    have HF : Hid (fiI g h L E (f + 1) M = E.findSome? (fun y => if (bset M).testBit y then none else fiI g h L E f (M ++ [y]))) := Lib.hid (fiI_part hfull)
    have hml2 : M.length < L.length := by omega
    have HMo := Lib.hid hMo
    have hI0 := (HI.out W0 (Ext.refl _)).2.2.2
    obtain ⟨ao', cE', adrE, hvE, hadrE, hcellE⟩ := hI0.nats
    have hixE := ints_index (c := cE') elI szI hadrE
    simp only [Value.slice.injEq] at hvE
    obtain ⟨rfl, -, rfl⟩ := hvE
    have hoM : ∀ k, Sm bM bU (Value.slice aoM M.length cM).ownBlock k → W0.heap.size ≤ k := by
      rintro k (rfl | rfl | hk)
      · exact h0M
      · exact h0U
      · exact (hO.blk k hk.symm).1
    have hTS : ¬ Sm bM bU (Value.slice aoM M.length cM).ownBlock bT := by
      rintro (hk | hk | hk)
      · exact hTM hk
      · exact hTU hk
      · exact hTO hk.symm
    have Hb24 := Lib.hid hb24
    have HB := Lib.hid hBM
    have HU := Lib.hid hBU
    have HO := Lib.hid hO
    have HcellE := Lib.hid hcellE
    clear hfull hI0 hadrE hBM hBU hO hcellE
    go_enter Try.func110, Try.ntmps110
    go_wp2_with fail
    clear kM hE
    go_loopw [29] (fun iv wr => ∃ (k : Nat) (vM' : Value), k ≤ E.length ∧ iv = .int .i64 k ∧ Blk wr bM 22 #[vM'] ∧ Blk wr bU 3 #[.int .i64 (bset M : Nat)] ∧ Own 3 W0 wr vM' (castL M) ∧ Fw (Sm bM bU (Value.slice aoM M.length cM).ownBlock) w wr ∧ Nw (Value.slice aoM M.length cM).ownBlock w vM'.ownBlock ∧ Hid (∀ k', k' < k → (if (bset M).testBit (nthN E k') then none else fiI g h L E f (M ++ [nthN E k'])) = none)) (fun iv _ => E.length - (intOf iv).toNat)
    case atStart => exact ⟨0, _, by omega, rfl, HB.out, HU.out, HO.out, Fw.refl _ _, Nw.refl _ _, Lib.hid (by omega)⟩
    case round =>
      obtain ⟨k, vM', hk, rfl, hB, hU, hOr, hF, hN, H⟩ := hrel
      have hE0r := hF.ext hE0 hoM
      have hTr := hF.blk hBT hTS
      obtain ⟨aoR, cR, rfl, -⟩ := hOr.shape
      rw [castL_len] at hB hOr hN
      have HFw := Lib.hid hF
      have HNr := Lib.hid hN
      clear hF hN
      have hkU := hU.cell (i := 0) (v := .int .i64 (bset M : Nat)) rfl
      by_cases hlt : k < E.length
      · have hyo := hEo _ (nthN_mem hlt)
        have hck := HcellE.out k wr hlt hE0r
        obtain ⟨Y, hY⟩ : ∃ Y, Y = nthN E k := ⟨_, rfl⟩
        have HY := Lib.hid hY
        rw [← hY] at hck hyo
        clear hY
        have hy24 : Y < 24 := Nat.lt_of_lt_of_le hyo hoh.2
        cases ht : (bset M).testBit Y
        · have hcN := in_val (bset M) Y hb24 (by omega) wr ht
          have Ht := Lib.hid ht
          clear ht
          have hs1 := ishl_one (n := Y) (by omega)
          have hs2 := ior_pw hb24 hy24
          go_wp2_with (refine hcN.mono ?_; rintro e' w' ⟨rfl, hw'⟩; subst hw')
          go_still_tail 4, (by kernel_rfl)
          change wpList _ _ _ _ _ (World.drew _)
          obtain ⟨wd, hwd⟩ : ∃ wd, wd = World.drew wr := ⟨_, rfl⟩
          have hnd : Ext wr wd := by rw [hwd]; exact (Ext.refl _).drew
          rw [← hwd]
          clear hwd hkU hck hcN
          have hFd := Lib.hid (HFw.out.trans (hnd.fw _))
          replace hU := hU.ext hnd
          replace hB := hB.ext hnd
          replace hOr := hOr.ext hnd
          replace hTr := hTr.ext hnd
          replace hE0r := hE0r.trans hnd
          clear hnd HFw
          obtain ⟨HFw, -⟩ : ∃ x : Hid (Fw (Sm bM bU (Value.slice aoM M.length cM).ownBlock) w wd), x = hFd := ⟨hFd, rfl⟩
          clear hFd
          have hfU := hU.free 0
          have kM : wd.cell? ⟨bM, 0, none⟩ = some (.slice aoR M.length cR) := hB.cell (i := 0) rfl
          have hkU := hU.cell (i := 0) (v := .int .i64 (bset M : Nat)) rfl
          have hOU2 : (Value.slice aoR M.length cR).ownBlock ≠ some bU := by
            rcases HNr.out with e | e
            · rw [e]; exact hOU
            · intro e2; have h1 := e bU e2; have h2 := HU.out.lt; omega
          have hOM2 := own_not hOr hB (by decide)
          have hOT2 := own_not hOr hTr (by decide)
          have hU1 : Blk (wd.setCell ⟨bU, 0, none⟩ (.int .i64 ((bset M ||| 2 ^ Y : Nat) : Int))) bU 3 #[.int .i64 ((bset M ||| 2 ^ Y : Nat) : Int)] := hU.set 0 _
          have hB1 : Blk (wd.setCell ⟨bU, 0, none⟩ (.int .i64 ((bset M ||| 2 ^ Y : Nat) : Int))) bM 22 #[.slice aoR M.length cR] := hB.other (by simpa using hMU) _
          have hT1 := hTr.other (p := ⟨bU, 0, none⟩) (by simpa using hTU) (.int .i64 ((bset M ||| 2 ^ Y : Nat) : Int))
          have hO1 := (fr_set bU none wd 0 (.int .i64 ((bset M ||| 2 ^ Y : Nat) : Int))).own hOr hOU2 (by cases hq : (Value.slice aoR M.length cR).ownBlock with
            | none => exact Or.inl rfl
            | some k => exact Or.inr (by simp))
          have hE01 := hE0r.setCell (p := ⟨bU, 0, none⟩) h0U (.int .i64 ((bset M ||| 2 ^ Y : Nat) : Int))
          have hlen : (castL M).length < 17592186044416 := by rw [castL_len]; omega
          have k1 := hB1.cell (i := 0) (v := .slice aoR M.length cR) rfl
          have hn1 := hN1_size wd bU (.int .i64 ((bset M ||| 2 ^ Y : Nat) : Int))
          have hszd : (wd.setCell ⟨bU, 0, none⟩ (.int .i64 ((bset M ||| 2 ^ Y : Nat) : Int))).heap.size = wd.heap.size := by simp
          go_wp2_with ((at_builtin; (refine wp_append1F slI rfl _ _ rfl W0 _ _ _ _ hO1 hE01 hlen rfl (by rw [hszd]; rfl) ?_; intro v2 w2 hO2 hG2 hN2; rw [show castL M ++ [(Y : Int)] = castL (M ++ [Y]) by simp [castL]] at hO2; have hB2 := hB1.grown hG2 (fun k hk e => hOM2 (by rw [hk, e])); have hU2 := hU1.grown hG2 (fun k hk e => hOU2 (by rw [hk, e])); have hT2 := hT1.grown hG2 (fun k hk e => hOT2 (by rw [hk, e])); have hc2 := hB2.cell (i := 0) (v := .slice aoR M.length cR) rfl; have hf2 := hB2.free 0; obtain ⟨a2, c2, rfl, -⟩ := hO2.shape; rw [castL_len, List.length_append, List.length_singleton] at hO2 hN2 ⊢; have hT3 := hT2.other (p := ⟨bM, 0, none⟩) (by simpa using hTM) (.slice a2 (M.length + 1) c2); have kt3 := hT3.cell (i := 0) (v := fn) rfl; rw [hfn] at kt3)))
          have hB3 : Blk (w2.setCell ⟨bM, 0, none⟩ (.slice a2 (M.length + 1) c2)) bM 22 #[.slice a2 (M.length + 1) c2] := hB2.set 0 _
          have hU3 := hU2.other (p := ⟨bM, 0, none⟩) (by simpa using hMU.symm) (.slice a2 (M.length + 1) c2)
          have hO3 := (fr_set bM none w2 0 (.slice a2 (M.length + 1) c2)).own hO2 (own_not hO2 hB2 (by decide)) (by cases hq : (Value.slice a2 (M.length + 1) c2).ownBlock with
            | none => exact Or.inl rfl
            | some k => exact Or.inr (by simp))
          have hF3 := ((fw_set (S := Sm bM bU (Value.slice aoR M.length cR).ownBlock) (Or.inr (Or.inl rfl)) wd 0 (.int .i64 ((bset M ||| 2 ^ Y : Nat) : Int))).trans (fw_grown bM bU hG2)).trans (fw_set (Or.inl rfl) w2 0 (.slice a2 (M.length + 1) c2))
          have hN3 : Nw (Value.slice aoR M.length cR).ownBlock wd (Value.slice a2 (M.length + 1) c2).ownBlock := hN2.size hn1
          have hoR : ∀ k, Sm bM bU (Value.slice aoR M.length cR).ownBlock k → W0.heap.size ≤ k := by
            rintro k (rfl | rfl | hk)
            · exact h0M
            · exact h0U
            · exact (hOr.blk k hk.symm).1
          have hE03 := hF3.ext hE0r hoR
          have hbUs := hU.lt
          have hOU3 := hN3.ne hOU2 hbUs
          obtain ⟨w3, hw3⟩ : ∃ w3, w3 = w2.setCell ⟨bM, 0, none⟩ (.slice a2 (M.length + 1) c2) := ⟨_, rfl⟩
          rw [← hw3] at hB3 hU3 hT3 hO3 hF3 hE03 kt3 ⊢
          have Hw3 := Lib.hid hw3
          have hcR := Hih.out (M ++ [Y]) (.slice a2 (M.length + 1) c2) w3 (by simp; omega) (by simp; omega) (fun y hy => by
            rw [List.mem_append, List.mem_singleton] at hy
            rcases hy with hy | rfl
            · exact HMo.out y hy
            · exact hyo) hE03 hB3 hO3 hOU3 (by rw [bset_app]; exact hU3) hT3
          clear hw3 hB2 hU2 hT2 hc2 hf2 hT1 hU1 hB1 hO1 hO2 hG2 hE01 k1 kM kt3 hB3 hU3 hO3 hkU hfU
          have Hrun : Hid ((if (bset M).testBit (nthN E k) then none else fiI g h L E f (M ++ [nthN E k])) = fiI g h L E f (M ++ [Y])) := Lib.hid (by rw [← HY.out, Ht.out]; rfl)
          obtain ⟨r, hr⟩ : ∃ r, r = fiI g h L E f (M ++ [Y]) := ⟨_, rfl⟩
          rw [← hr] at hcR Hrun
          clear hr
          refine hcR.mono ?_
          rintro e w4 ⟨rfl, v4, u4, hB4, hU4, hu4, hO4, hF4, hN4⟩
          have hF5 := hF3.transN hN3 hF4
          have hN5 := hN3.trans hF3.size hN4
          clear hcR hF4 hN4
          cases r with
          | some N =>
            have HFs : Hid (fiI g h L E (f + 1) M = some N) := Lib.hid (by rw [HF.out]; exact findSome_at hlt H.out Hrun.out)
            go_wp2_with fail
            go_ret
            exact ⟨ret_bool (by rw [HFs.out]; rfl), _, _, hB4, hU4, fun e => absurd e (by rw [HFs.out]; simp), by rw [HFs.out]; exact hO4, HFw.out.transN HNr.out hF5, HNr.out.trans HFw.out.size hN5⟩
          | none =>
            have hu5 := hu4 rfl
            subst hu5
            rw [bset_app] at hU4
            have hO4' : Own 3 W0 w4 v4 (castL (M ++ [Y])) := hO4
            clear hO4
            obtain ⟨a4, c4, rfl, hc4, -⟩ := hO4'.shape
            rw [castL_len, List.length_append, List.length_singleton] at hO4' hB4 hN5 hc4
            have hOU4 := hN5.ne hOU2 hbUs
            have hOM4 := own_not hO4' hB4 (by decide)
            have hs3 : iandn ((bset M ||| 2 ^ Y : Nat) : Int) ((pw Y : Nat) : Int) = ((bset M : Nat) : Int) := by
              have h1 : pw Y < 2 ^ 24 := Nat.pow_lt_pow_right (by omega) hy24
              have h2 : bset M ||| 2 ^ Y < 2 ^ 24 := Nat.or_lt_two_pow hb24 h1
              rw [iandn_nat (by omega) (by omega)]
              rw [show andN (bset M ||| 2 ^ Y) (pw Y) = bset M from andN_back Ht.out]
            have k4 := hU4.cell (i := 0) (v := .int .i64 ((bset M ||| 2 ^ Y : Nat) : Int)) rfl
            have f4 := hU4.free 0
            have hE04 := hF5.ext hE0r hoR
            go_wp2_with fail
            go_still_tail 4, (by kernel_rfl)
            change wpList _ _ _ _ _ (World.drew _)
            obtain ⟨w5, hw5⟩ : ∃ w5, w5 = World.drew w4 := ⟨_, rfl⟩
            have h45 : Ext w4 w5 := by rw [hw5]; exact (Ext.refl _).drew
            rw [← hw5]
            clear hw5 k4 f4
            replace hU4 := hU4.ext h45
            replace hB4 := hB4.ext h45
            replace hO4' := hO4'.ext h45
            have k4 := hU4.cell (i := 0) (v := .int .i64 ((bset M ||| 2 ^ Y : Nat) : Int)) rfl
            have f4 := hU4.free 0
            have hB5 := hB4.other (p := ⟨bU, 0, none⟩) (by simpa using hMU) (.int .i64 ((bset M : Nat) : Int))
            have hU5 : Blk (w5.setCell ⟨bU, 0, none⟩ (.int .i64 ((bset M : Nat) : Int))) bU 3 #[.int .i64 ((bset M : Nat) : Int)] := hU4.set 0 _
            have k5 := hB5.cell (i := 0) (v := .slice a4 (M.length + 1) c4) rfl
            have f5 := hB5.free 0
            have hsl := fun W => run_cut (P := Try.prog) elI szI a4 (M.length + 1) c4 (M.length : Int) (by omega) (by omega) W
            have hsa := fun W => run_cutAt (P := Try.prog) elI szI a4 (M.length + 1) c4 (M.length : Int) (by omega) (by omega) W
            rw [show ((M.length : Int)).toNat = M.length by omega] at hsl hsa
            go_wp2_with fail
            have hOb : Own 3 W0 w5 (.slice a4 M.length c4) (castL M) := by
              rw [show castL (M ++ [Y]) = castL M ++ [(Y : Int)] by simp [castL]] at hO4'
              exact hO4'.pop (castL_len M)
            have hobk : (Value.slice a4 (M.length + 1) c4).ownBlock = (Value.slice a4 M.length c4).ownBlock := by cases a4 <;> rfl
            rw [hobk] at hN5 hOU4 hOM4
            have hOb2 := (fr_set bU none w5 0 (.int .i64 ((bset M : Nat) : Int))).own hOb hOU4 (by cases hq : (Value.slice a4 M.length c4).ownBlock with
              | none => exact Or.inl rfl
              | some k => exact Or.inr (by simp))
            have hOb3 := (fr_set bM none (w5.setCell ⟨bU, 0, none⟩ (.int .i64 ((bset M : Nat) : Int))) 0 (.slice a4 M.length c4)).own hOb2 hOM4 (by cases hq : (Value.slice a4 M.length c4).ownBlock with
              | none => exact Or.inl rfl
              | some k => exact Or.inr (by simp))
            have hB6 : Blk ((w5.setCell ⟨bU, 0, none⟩ (.int .i64 ((bset M : Nat) : Int))).setCell ⟨bM, 0, none⟩ (.slice a4 M.length c4)) bM 22 #[.slice a4 M.length c4] := hB5.set 0 _
            have hU6 := hU5.other (p := ⟨bM, 0, none⟩) (by simpa using hMU.symm) (.slice a4 M.length c4)
            have hF6 := ((hF5.trans (h45.fw _)).trans (fw_set (Or.inr (Or.inl rfl)) w5 0 (.int .i64 ((bset M : Nat) : Int)))).trans (fw_set (Or.inl rfl) (w5.setCell ⟨bU, 0, none⟩ (.int .i64 ((bset M : Nat) : Int))) 0 (.slice a4 M.length c4))
            go_roundw
            case rel => exact ⟨k + 1, _, by omega, by go_num, hB6, hU6, hOb3, HFw.out.transN HNr.out hF6, HNr.out.trans HFw.out.size hN5, Lib.hid fun k' hk' => by by_cases e : k' = k; (subst e; exact Hrun.out); exact H.out k' (by omega)⟩
            case measure => (simp [intOf]; omega)
        · have hcN := in_val (bset M) Y hb24 (by omega) wr ht
          have Hno : Hid ((if (bset M).testBit (nthN E k) then none else fiI g h L E f (M ++ [nthN E k])) = none) := Lib.hid (by rw [← HY.out, ht]; rfl)
          clear ht
          go_wp2_with (refine hcN.mono ?_; rintro e' w' ⟨rfl, hw'⟩; subst hw')
          go_roundw
          case rel => exact ⟨k + 1, _, by omega, by go_num, hB, hU, hOr, HFw.out, HNr.out, Lib.hid fun k' hk' => by by_cases e : k' = k; (subst e; exact Hno.out); exact H.out k' (by omega)⟩
          case measure => (simp [intOf]; omega)
      · have hkl : k = E.length := by omega
        have HFn : Hid (fiI g h L E (f + 1) M = none) := Lib.hid (by rw [HF.out]; exact findSome_none fun k' hk' => H.out k' (by omega))
        clear hkl
        go_wp2_with fail
        go_ret
        exact ⟨ret_bool (by rw [HFn.out]; rfl), _, _, hB, hU, fun _ => rfl, by rw [HFn.out]; exact hOr, HFw.out, HNr.out⟩
end Go.Zz
