/- Counts that are kept are those that are new, and elements that are added and removed leave all as it was: the walk through the law. -/
import Derived.Test.YtgkojfjbfmpaaaaGr13
import Derived.Test.YtgkojfjbfmpaaaaGr14
import Derived.Test.YtgkojfjbfmpaaaaGr11
import Derived.Test.YtgkojfjbfmpaaaaGr10
import Derived.Deep.DeepCutAuto
namespace Go.Zz
open Go.RowKit Go.Proofs
set_option maxHeartbeats 40000000
set_option maxRecDepth 20000

theorem ed_all {L M LA MA : List Int} {N x NA : Int} (h : adB L N M x = true) (e1 : LA = kvL (adB L N M x) L) (e2 : NA = kvN (adB L N M x) (adS N x)) (e3 : MA = kvM (adB L N M x) L (adS N x)) :
    keptB LA NA MA = true ∧ isSetB LA NA = true ∧ nkL LA NA = LA ∧ nkN LA NA = NA ∧ tabF LA NA NA = MA ∧ rmB LA NA MA x = true ∧ kvL true LA = L ∧ kvN true (rmS NA x) = N ∧ kvM true LA (rmS NA x) = M ∧ engF LA NA MA = enF LA NA NA ∧ sukF LA NA MA = ssF LA NA NA := by
  obtain ⟨s, k, rfl, hs, hS, hK, ht, hr, hrs, hm, he, hu⟩ := ed_fact h
  rw [h, hs] at e2 e3
  rw [h] at e1
  have e1' : LA = L := e1
  have e2' : NA = (s : Int) := e2
  have e3' : MA = tabN L s s := e3
  rw [e1', e2', e3', hrs]
  exact ⟨hK, hS, by unfold nkL; rw [hS]; rfl, by unfold nkN; rw [hS]; rfl, ht, hr, rfl, rfl, hm.symm, he, hu⟩
theorem eqK_refl (l m : List Int) (n : Int) : eqK l m n l m n = true := by unfold eqK; simp
/-- what holds behind each part of the law -/
def LawE (w : World) (v : Value) (l : List Int) (wx : World) : Prop := Ext w wx ∧ Byts wx v l
theorem LawE.ext {w w1 w2 : World} {v : Value} {l : List Int} (h : LawE w v l w1) (hE : Ext w1 w2) : LawE w v l w2 := ⟨h.1.trans hE, h.2.ext hE⟩
theorem FnEdits_walk {v : Value} {l : List Int} {w : World} (h : Byts w v l) :
    Calls Try.prog 3 #[v] w fun e w' => e = .returned (.bool true) ∧ Ext w w' := by
  go_enter Try.func3, Try.ntmps3
  go_wp2_with fail
  refine (big_any _ _ _ h).mono ?_
  rintro e w0 ⟨b, rfl, hE0⟩
  cases b
  rotate_left
  · go_wp2_with fail
    go_ret
    exact ⟨rfl, hE0⟩
  have hP : LawE w v l w0 := ⟨hE0, h.ext hE0⟩
  clear hE0 h
  go_wp2_with fail
  refine (DrawAddTo_any _ _ _ hP.2).mono ?_
  rintro e w1 ⟨c, x, rfl, ⟨aLk, Lk, cLk, Nk, aMk, Mk, cMk, rfl, hK, hN⟩, hx, hE⟩
  unfold KVal at hK ⊢
  replace hP := hP.ext hE
  clear hE hx hN
  have hBk := Blk.new w1 28 #[.slice aLk Lk.length cLk, .int .i64 Nk, .slice aMk Mk.length cMk]
  have hIk := (hK.isK).ext ((Ext.refl w1).alloc (.cells #[.slice aLk Lk.length cLk, .int .i64 Nk, .slice aMk Mk.length cMk] 28))
  have eN := (Ext.refl w1).alloc (.cells #[.slice aLk Lk.length cLk, .int .i64 Nk, .slice aMk Mk.length cMk] 28)
  obtain ⟨W1, hW1⟩ : ∃ x, x = w1.alloc (.cells #[.slice aLk Lk.length cLk, .int .i64 Nk, .slice aMk Mk.length cMk] 28) := ⟨_, rfl⟩
  rw [← hW1] at hBk hIk eN
  replace hP := hP.ext eN
  clear eN
  clear hK
  obtain ⟨AB, hAB⟩ : ∃ q, q = adB Lk Nk Mk x := ⟨_, rfl⟩
  obtain ⟨LA, hLA⟩ : ∃ q, q = kvL (adB Lk Nk Mk x) Lk := ⟨_, rfl⟩
  obtain ⟨NA, hNA⟩ : ∃ q, q = kvN (adB Lk Nk Mk x) (adS Nk x) := ⟨_, rfl⟩
  obtain ⟨MA, hMA⟩ : ∃ q, q = kvM (adB Lk Nk Mk x) Lk (adS Nk x) := ⟨_, rfl⟩
  have cA : ∀ c W, IsK W c Lk Nk Mk → Calls Try.prog 9 #[c, .int .i64 x] W fun e w' => ∃ d, e = .returned (.tuple #[d, .bool AB]) ∧ OwnK2 W w' d LA NA MA ∧ Ext W w' := fun c W hc => by rw [hAB, hLA, hNA, hMA]; exact AddTo_any c Lk Mk Nk x W hc
  have cB : ∀ c W, IsK W c Lk Nk Mk → Calls Try.prog 10 #[c, .int .i64 x] W fun e w' => ∃ d, e = .returned (.tuple #[d, .bool AB]) ∧ OwnK2 W w' d LA NA MA ∧ Ext W w' := fun c W hc => by rw [hAB, hLA, hNA, hMA]; exact sAddTo_any c Lk Mk Nk x W hc
  have Hall := Lib.hid (fun q : AB = true => ed_all (hAB.symm.trans q) hLA hNA hMA)
  clear hAB hLA hNA hMA
  have kk0 := hBk.cell (i := 0) (v := .slice aLk Lk.length cLk) rfl
  have kk1 := hBk.cell (i := 1) (v := .int .i64 Nk) rfl
  have kk2 := hBk.cell (i := 2) (v := .slice aMk Mk.length cMk) rfl
  rw [hW1] at kk0 kk1 kk2
  have HW1 := Lib.hid hW1
  clear hW1
  go_wp2_with fail
  rw [← HW1.out]
  clear kk0 kk1 kk2
  refine (cA _ _ hIk).mono ?_
  rintro e w2 ⟨d, rfl, ⟨v1, v2, rfl, h1, h2, -⟩, hE⟩
  obtain ⟨aLa, cLa, rfl, -⟩ := h1.shape
  obtain ⟨aMa, cMa, rfl, -⟩ := h2.shape
  have hK : IsK w2 (.agg #[.slice aLa LA.length cLa, .int .i64 NA, .slice aMa MA.length cMa]) LA NA MA := ⟨_, _, rfl, h1.ints, h2.ints⟩
  clear h1 h2
  replace hP := hP.ext hE
  replace hBk := hBk.ext hE
  replace hIk := hIk.ext hE
  clear hE
  replace hBk := hBk.alloc (.cells #[.slice aLa LA.length cLa, .int .i64 NA, .slice aMa MA.length cMa] 28)
  replace hIk := hIk.ext ((Ext.refl w2).alloc (.cells #[.slice aLa LA.length cLa, .int .i64 NA, .slice aMa MA.length cMa] 28))
  have hBa := Blk.new w2 28 #[.slice aLa LA.length cLa, .int .i64 NA, .slice aMa MA.length cMa]
  have hIa := (hK).ext ((Ext.refl w2).alloc (.cells #[.slice aLa LA.length cLa, .int .i64 NA, .slice aMa MA.length cMa] 28))
  have eN := (Ext.refl w2).alloc (.cells #[.slice aLa LA.length cLa, .int .i64 NA, .slice aMa MA.length cMa] 28)
  obtain ⟨W2, hW2⟩ : ∃ x, x = w2.alloc (.cells #[.slice aLa LA.length cLa, .int .i64 NA, .slice aMa MA.length cMa] 28) := ⟨_, rfl⟩
  rw [← hW2] at hBk hIk hBa hIa eN
  replace hP := hP.ext eN
  clear eN
  clear hK
  have kk0 := hBk.cell (i := 0) (v := .slice aLk Lk.length cLk) rfl
  have kk1 := hBk.cell (i := 1) (v := .int .i64 Nk) rfl
  have kk2 := hBk.cell (i := 2) (v := .slice aMk Mk.length cMk) rfl
  have ka0 := hBa.cell (i := 0) (v := .slice aLa LA.length cLa) rfl
  have ka1 := hBa.cell (i := 1) (v := .int .i64 NA) rfl
  have ka2 := hBa.cell (i := 2) (v := .slice aMa MA.length cMa) rfl
  rw [hW2] at kk0 kk1 kk2 ka0 ka1 ka2
  have HW2 := Lib.hid hW2
  clear hW2
  go_wp2_with fail
  rw [← HW2.out]
  clear kk0 kk1 kk2 ka0 ka1 ka2
  refine (cB _ _ hIk).mono ?_
  rintro e w3 ⟨d, rfl, ⟨v1, v2, rfl, h1, h2, -⟩, hE⟩
  obtain ⟨aLb, cLb, rfl, -⟩ := h1.shape
  obtain ⟨aMb, cMb, rfl, -⟩ := h2.shape
  have hK : IsK w3 (.agg #[.slice aLb LA.length cLb, .int .i64 NA, .slice aMb MA.length cMb]) LA NA MA := ⟨_, _, rfl, h1.ints, h2.ints⟩
  clear h1 h2
  replace hP := hP.ext hE
  replace hBk := hBk.ext hE
  replace hIk := hIk.ext hE
  replace hBa := hBa.ext hE
  replace hIa := hIa.ext hE
  clear hE
  replace hBk := hBk.alloc (.cells #[.slice aLb LA.length cLb, .int .i64 NA, .slice aMb MA.length cMb] 28)
  replace hIk := hIk.ext ((Ext.refl w3).alloc (.cells #[.slice aLb LA.length cLb, .int .i64 NA, .slice aMb MA.length cMb] 28))
  replace hBa := hBa.alloc (.cells #[.slice aLb LA.length cLb, .int .i64 NA, .slice aMb MA.length cMb] 28)
  replace hIa := hIa.ext ((Ext.refl w3).alloc (.cells #[.slice aLb LA.length cLb, .int .i64 NA, .slice aMb MA.length cMb] 28))
  have hBb := Blk.new w3 28 #[.slice aLb LA.length cLb, .int .i64 NA, .slice aMb MA.length cMb]
  have hIb := (hK).ext ((Ext.refl w3).alloc (.cells #[.slice aLb LA.length cLb, .int .i64 NA, .slice aMb MA.length cMb] 28))
  have eN := (Ext.refl w3).alloc (.cells #[.slice aLb LA.length cLb, .int .i64 NA, .slice aMb MA.length cMb] 28)
  obtain ⟨W3, hW3⟩ : ∃ x, x = w3.alloc (.cells #[.slice aLb LA.length cLb, .int .i64 NA, .slice aMb MA.length cMb] 28) := ⟨_, rfl⟩
  rw [← hW3] at hBk hIk hBa hIa hBb hIb eN
  replace hP := hP.ext eN
  clear eN
  clear hK
  have kk0 := hBk.cell (i := 0) (v := .slice aLk Lk.length cLk) rfl
  have kk1 := hBk.cell (i := 1) (v := .int .i64 Nk) rfl
  have kk2 := hBk.cell (i := 2) (v := .slice aMk Mk.length cMk) rfl
  have ka0 := hBa.cell (i := 0) (v := .slice aLa LA.length cLa) rfl
  have ka1 := hBa.cell (i := 1) (v := .int .i64 NA) rfl
  have ka2 := hBa.cell (i := 2) (v := .slice aMa MA.length cMa) rfl
  have kb0 := hBb.cell (i := 0) (v := .slice aLb LA.length cLb) rfl
  have kb1 := hBb.cell (i := 1) (v := .int .i64 NA) rfl
  have kb2 := hBb.cell (i := 2) (v := .slice aMb MA.length cMb) rfl
  rw [hW3] at kk0 kk1 kk2 ka0 ka1 ka2 kb0 kb1 kb2
  have HW3 := Lib.hid hW3
  clear hW3
  go_wp2_with fail
  rw [← HW3.out]
  clear kk0 kk1 kk2 ka0 ka1 ka2 kb0 kb1 kb2
  refine (sEqualKept_any _ _ _ _ _ _ _ _ _ hIa hIb).mono ?_
  rw [eqK_refl]
  rintro e w4 ⟨rfl, hE⟩
  replace hP := hP.ext hE
  replace hBk := hBk.ext hE
  replace hIk := hIk.ext hE
  replace hBa := hBa.ext hE
  replace hIa := hIa.ext hE
  replace hBb := hBb.ext hE
  replace hIb := hIb.ext hE
  clear hE
  go_upto_if 56 with fail
  go_cut [9, 10, 11, 12] (fun _ _ _ _ wx => LawE w v l wx)
  case first =>
    as_aux_lemma =>
      cases AB
      · go_wp2_with fail
        go_meet
        exact hP
      · obtain ⟨f1, f2, f3, f4, f5, f6, f7, f8, f9, f10, f11⟩ := Hall.out rfl
        clear Hall cA cB
        obtain ⟨vb, ub, eb, hvb, -⟩ := id hIb
        simp only [Value.agg.injEq, Array.mk.injEq, List.cons.injEq, true_and, and_true] at eb
        obtain ⟨rfl, rfl⟩ := eb
        have cN := fun W (hW : Ext w4 W) => NewKept_any _ LA NA W (hvb.ext hW)
        rw [f2, f3, f4, f5] at cN
        have cR := fun c W (hc : IsK W c LA NA MA) => RemoveFrom_any c LA MA NA x W hc
        rw [f6, f7, f8, f9] at cR
        have kk0 := hBk.cell (i := 0) (v := .slice aLk Lk.length cLk) rfl
        have kk1 := hBk.cell (i := 1) (v := .int .i64 Nk) rfl
        have kk2 := hBk.cell (i := 2) (v := .slice aMk Mk.length cMk) rfl
        have ka0 := hBa.cell (i := 0) (v := .slice aLa LA.length cLa) rfl
        have ka1 := hBa.cell (i := 1) (v := .int .i64 NA) rfl
        have ka2 := hBa.cell (i := 2) (v := .slice aMa MA.length cMa) rfl
        have kb0 := hBb.cell (i := 0) (v := .slice aLb LA.length cLb) rfl
        have kb1 := hBb.cell (i := 1) (v := .int .i64 NA) rfl
        have kb2 := hBb.cell (i := 2) (v := .slice aMb MA.length cMb) rfl
        go_wp2_with fail
        clear kk0 kk1 kk2 ka0 ka1 ka2 kb0 kb1 kb2
        refine (cN _ (Ext.refl _)).mono ?_
        rintro e w5 ⟨d, rfl, ⟨v1, v2, rfl, h1, h2, -⟩, hE⟩
        obtain ⟨aLn, cLn, rfl, -⟩ := h1.shape
        obtain ⟨aMn, cMn, rfl, -⟩ := h2.shape
        have hK : IsK w5 (.agg #[.slice aLn LA.length cLn, .int .i64 NA, .slice aMn MA.length cMn]) LA NA MA := ⟨_, _, rfl, h1.ints, h2.ints⟩
        clear h1 h2
        replace hP := hP.ext hE
        replace hBk := hBk.ext hE
        replace hIk := hIk.ext hE
        replace hBa := hBa.ext hE
        replace hIa := hIa.ext hE
        replace hBb := hBb.ext hE
        replace hIb := hIb.ext hE
        clear hE
        replace hBk := hBk.alloc (.cells #[.slice aLn LA.length cLn, .int .i64 NA, .slice aMn MA.length cMn] 28)
        replace hIk := hIk.ext ((Ext.refl w5).alloc (.cells #[.slice aLn LA.length cLn, .int .i64 NA, .slice aMn MA.length cMn] 28))
        replace hBa := hBa.alloc (.cells #[.slice aLn LA.length cLn, .int .i64 NA, .slice aMn MA.length cMn] 28)
        replace hIa := hIa.ext ((Ext.refl w5).alloc (.cells #[.slice aLn LA.length cLn, .int .i64 NA, .slice aMn MA.length cMn] 28))
        replace hBb := hBb.alloc (.cells #[.slice aLn LA.length cLn, .int .i64 NA, .slice aMn MA.length cMn] 28)
        replace hIb := hIb.ext ((Ext.refl w5).alloc (.cells #[.slice aLn LA.length cLn, .int .i64 NA, .slice aMn MA.length cMn] 28))
        have hBn := Blk.new w5 28 #[.slice aLn LA.length cLn, .int .i64 NA, .slice aMn MA.length cMn]
        have hIn := (hK).ext ((Ext.refl w5).alloc (.cells #[.slice aLn LA.length cLn, .int .i64 NA, .slice aMn MA.length cMn] 28))
        have eN := (Ext.refl w5).alloc (.cells #[.slice aLn LA.length cLn, .int .i64 NA, .slice aMn MA.length cMn] 28)
        obtain ⟨W5, hW5⟩ : ∃ x, x = w5.alloc (.cells #[.slice aLn LA.length cLn, .int .i64 NA, .slice aMn MA.length cMn] 28) := ⟨_, rfl⟩
        rw [← hW5] at hBk hIk hBa hIa hBb hIb hBn hIn eN
        replace hP := hP.ext eN
        clear eN
        clear hK
        have kk0 := hBk.cell (i := 0) (v := .slice aLk Lk.length cLk) rfl
        have kk1 := hBk.cell (i := 1) (v := .int .i64 Nk) rfl
        have kk2 := hBk.cell (i := 2) (v := .slice aMk Mk.length cMk) rfl
        have ka0 := hBa.cell (i := 0) (v := .slice aLa LA.length cLa) rfl
        have ka1 := hBa.cell (i := 1) (v := .int .i64 NA) rfl
        have ka2 := hBa.cell (i := 2) (v := .slice aMa MA.length cMa) rfl
        have kb0 := hBb.cell (i := 0) (v := .slice aLb LA.length cLb) rfl
        have kb1 := hBb.cell (i := 1) (v := .int .i64 NA) rfl
        have kb2 := hBb.cell (i := 2) (v := .slice aMb MA.length cMb) rfl
        have kn0 := hBn.cell (i := 0) (v := .slice aLn LA.length cLn) rfl
        have kn1 := hBn.cell (i := 1) (v := .int .i64 NA) rfl
        have kn2 := hBn.cell (i := 2) (v := .slice aMn MA.length cMn) rfl
        rw [hW5] at kk0 kk1 kk2 ka0 ka1 ka2 kb0 kb1 kb2 kn0 kn1 kn2
        have HW5 := Lib.hid hW5
        clear hW5
        go_wp2_with fail
        rw [← HW5.out]
        clear kk0 kk1 kk2 ka0 ka1 ka2 kb0 kb1 kb2 kn0 kn1 kn2
        refine (cR _ _ hIb).mono ?_
        rintro e w6 ⟨d, rfl, ⟨v1, v2, rfl, h1, h2, -⟩, hE⟩
        obtain ⟨aLc, cLc, rfl, -⟩ := h1.shape
        obtain ⟨aMc, cMc, rfl, -⟩ := h2.shape
        have hK : IsK w6 (.agg #[.slice aLc Lk.length cLc, .int .i64 Nk, .slice aMc Mk.length cMc]) Lk Nk Mk := ⟨_, _, rfl, h1.ints, h2.ints⟩
        clear h1 h2
        replace hP := hP.ext hE
        replace hBk := hBk.ext hE
        replace hIk := hIk.ext hE
        replace hBa := hBa.ext hE
        replace hIa := hIa.ext hE
        replace hBb := hBb.ext hE
        replace hIb := hIb.ext hE
        replace hBn := hBn.ext hE
        replace hIn := hIn.ext hE
        clear hE
        replace hBk := hBk.alloc (.cells #[.slice aLc Lk.length cLc, .int .i64 Nk, .slice aMc Mk.length cMc] 28)
        replace hIk := hIk.ext ((Ext.refl w6).alloc (.cells #[.slice aLc Lk.length cLc, .int .i64 Nk, .slice aMc Mk.length cMc] 28))
        replace hBa := hBa.alloc (.cells #[.slice aLc Lk.length cLc, .int .i64 Nk, .slice aMc Mk.length cMc] 28)
        replace hIa := hIa.ext ((Ext.refl w6).alloc (.cells #[.slice aLc Lk.length cLc, .int .i64 Nk, .slice aMc Mk.length cMc] 28))
        replace hBb := hBb.alloc (.cells #[.slice aLc Lk.length cLc, .int .i64 Nk, .slice aMc Mk.length cMc] 28)
        replace hIb := hIb.ext ((Ext.refl w6).alloc (.cells #[.slice aLc Lk.length cLc, .int .i64 Nk, .slice aMc Mk.length cMc] 28))
        replace hBn := hBn.alloc (.cells #[.slice aLc Lk.length cLc, .int .i64 Nk, .slice aMc Mk.length cMc] 28)
        replace hIn := hIn.ext ((Ext.refl w6).alloc (.cells #[.slice aLc Lk.length cLc, .int .i64 Nk, .slice aMc Mk.length cMc] 28))
        have hBc := Blk.new w6 28 #[.slice aLc Lk.length cLc, .int .i64 Nk, .slice aMc Mk.length cMc]
        have hIc := (hK).ext ((Ext.refl w6).alloc (.cells #[.slice aLc Lk.length cLc, .int .i64 Nk, .slice aMc Mk.length cMc] 28))
        have eN := (Ext.refl w6).alloc (.cells #[.slice aLc Lk.length cLc, .int .i64 Nk, .slice aMc Mk.length cMc] 28)
        obtain ⟨W6, hW6⟩ : ∃ x, x = w6.alloc (.cells #[.slice aLc Lk.length cLc, .int .i64 Nk, .slice aMc Mk.length cMc] 28) := ⟨_, rfl⟩
        rw [← hW6] at hBk hIk hBa hIa hBb hIb hBn hIn hBc hIc eN
        replace hP := hP.ext eN
        clear eN
        clear hK
        have d1 := fun W (hW : Ext W6 W) => IsKept_any _ LA MA NA W (hIb.ext hW)
        have d2 := fun W (hW : Ext W6 W) => sEqualKept_any _ _ LA MA NA LA MA NA W (hIn.ext hW) (hIb.ext hW)
        have d3 := fun W (hW : Ext W6 W) => sEqualKept_any _ _ Lk Mk Nk Lk Mk Nk W (hIc.ext hW) (hIk.ext hW)
        have d4 := fun W (hW : Ext W6 W) => EnergyOfKept_any _ LA MA NA W (hIb.ext hW)
        have d6 := fun W (hW : Ext W6 W) => SumsOfKept_any _ LA MA NA W (hIb.ext hW)
        obtain ⟨vb, ub, eb, hvb, -⟩ := id hIb
        simp only [Value.agg.injEq, Array.mk.injEq, List.cons.injEq, true_and, and_true] at eb
        obtain ⟨rfl, rfl⟩ := eb
        have d5 := fun W (hW : Ext W6 W) => sEnergyOf_any _ LA NA NA W (hvb.ext hW)
        have d7 := fun W (hW : Ext W6 W) => sSumOfSets_any _ LA NA NA W (hvb.ext hW)
        rw [f1] at d1
        rw [eqK_refl] at d2 d3
        rw [f10] at d4
        rw [f11] at d6
        obtain ⟨En, hEn⟩ : ∃ q, q = enF LA NA NA := ⟨_, rfl⟩
        obtain ⟨Su, hSu⟩ : ∃ q, q = ssF LA NA NA := ⟨_, rfl⟩
        rw [← hEn] at d4 d5
        rw [← hSu] at d6 d7
        clear hEn hSu f1 f2 f3 f4 f5 f6 f7 f8 f9 f10 f11 cN cR
        have uk0 := fun U => (hBk.ext (lat_ext W6 U)).cell (i := 0) (v := .slice aLk Lk.length cLk) rfl
        have uk1 := fun U => (hBk.ext (lat_ext W6 U)).cell (i := 1) (v := .int .i64 Nk) rfl
        have uk2 := fun U => (hBk.ext (lat_ext W6 U)).cell (i := 2) (v := .slice aMk Mk.length cMk) rfl
        have ua0 := fun U => (hBa.ext (lat_ext W6 U)).cell (i := 0) (v := .slice aLa LA.length cLa) rfl
        have ua1 := fun U => (hBa.ext (lat_ext W6 U)).cell (i := 1) (v := .int .i64 NA) rfl
        have ua2 := fun U => (hBa.ext (lat_ext W6 U)).cell (i := 2) (v := .slice aMa MA.length cMa) rfl
        have ub0 := fun U => (hBb.ext (lat_ext W6 U)).cell (i := 0) (v := .slice aLb LA.length cLb) rfl
        have ub1 := fun U => (hBb.ext (lat_ext W6 U)).cell (i := 1) (v := .int .i64 NA) rfl
        have ub2 := fun U => (hBb.ext (lat_ext W6 U)).cell (i := 2) (v := .slice aMb MA.length cMb) rfl
        have un0 := fun U => (hBn.ext (lat_ext W6 U)).cell (i := 0) (v := .slice aLn LA.length cLn) rfl
        have un1 := fun U => (hBn.ext (lat_ext W6 U)).cell (i := 1) (v := .int .i64 NA) rfl
        have un2 := fun U => (hBn.ext (lat_ext W6 U)).cell (i := 2) (v := .slice aMn MA.length cMn) rfl
        have uc0 := fun U => (hBc.ext (lat_ext W6 U)).cell (i := 0) (v := .slice aLc Lk.length cLc) rfl
        have uc1 := fun U => (hBc.ext (lat_ext W6 U)).cell (i := 1) (v := .int .i64 Nk) rfl
        have uc2 := fun U => (hBc.ext (lat_ext W6 U)).cell (i := 2) (v := .slice aMc Mk.length cMc) rfl
        have HW6 := Lib.hid hW6
        clear hW6
        go_wp2_with fail
        rw [← HW6.out]
        have hE := Ext.refl W6
        (refine wp_region_lat (W6) (by kernel_rfl) (by kernel_rfl) hE ?_); (repeat (go_big_quiet_step (first | (go_at_call 14; first | (with_reducible exact Calls.lat (d1 _ (lat_ext _ _)))) | (go_at_call 11; first | (with_reducible exact Calls.lat (d2 _ (lat_ext _ _))) | (with_reducible exact Calls.lat (d3 _ (lat_ext _ _)))) | (go_at_call 15; first | (with_reducible exact Calls.lat (d4 _ (lat_ext _ _)))) | (go_at_call 16; first | (with_reducible exact Calls.lat (d5 _ (lat_ext _ _)))) | (go_at_call 17; first | (with_reducible exact Calls.lat (d6 _ (lat_ext _ _)))) | (go_at_call 18; first | (with_reducible exact Calls.lat (d7 _ (lat_ext _ _))))))); (refine wpQuiet_nil ?_); (intro W hE'); (replace hE := lat_of hE'); (clear hE')
        go_wp2_with fail
        go_meet
        exact hP.ext hE
  case rest =>
  clear hP hBk hIk hBa hIa hBb hIb cA cB Hall
  have hP := hcut
  clear hcut
  go_wp2_with fail
  refine (DrawRemoveFrom_any _ _ _ hP.2).mono ?_
  rintro e w1 ⟨c, y, rfl, ⟨aLc, Lc, cLc, Nc, aMc, Mc, cMc, rfl, hK, hN⟩, hx, hE⟩
  unfold KVal at hK ⊢
  replace hP := hP.ext hE
  clear hE hx hN
  have hBc := Blk.new w1 28 #[.slice aLc Lc.length cLc, .int .i64 Nc, .slice aMc Mc.length cMc]
  have hIc := (hK.isK).ext ((Ext.refl w1).alloc (.cells #[.slice aLc Lc.length cLc, .int .i64 Nc, .slice aMc Mc.length cMc] 28))
  have eN := (Ext.refl w1).alloc (.cells #[.slice aLc Lc.length cLc, .int .i64 Nc, .slice aMc Mc.length cMc] 28)
  obtain ⟨V1, hV1⟩ : ∃ x, x = w1.alloc (.cells #[.slice aLc Lc.length cLc, .int .i64 Nc, .slice aMc Mc.length cMc] 28) := ⟨_, rfl⟩
  rw [← hV1] at hBc hIc eN
  replace hP := hP.ext eN
  clear eN
  clear hK
  obtain ⟨RB, hRB⟩ : ∃ q, q = rmB Lc Nc Mc y := ⟨_, rfl⟩
  obtain ⟨LR, hLR⟩ : ∃ q, q = kvL (rmB Lc Nc Mc y) Lc := ⟨_, rfl⟩
  obtain ⟨NR, hNR⟩ : ∃ q, q = kvN (rmB Lc Nc Mc y) (rmS Nc y) := ⟨_, rfl⟩
  obtain ⟨MR, hMR⟩ : ∃ q, q = kvM (rmB Lc Nc Mc y) Lc (rmS Nc y) := ⟨_, rfl⟩
  have cA : ∀ c W, IsK W c Lc Nc Mc → Calls Try.prog 13 #[c, .int .i64 y] W fun e w' => ∃ d, e = .returned (.tuple #[d, .bool RB]) ∧ OwnK2 W w' d LR NR MR ∧ Ext W w' := fun c W hc => by rw [hRB, hLR, hNR, hMR]; exact RemoveFrom_any c Lc Mc Nc y W hc
  have cB : ∀ c W, IsK W c Lc Nc Mc → Calls Try.prog 20 #[c, .int .i64 y] W fun e w' => ∃ d, e = .returned (.tuple #[d, .bool RB]) ∧ OwnK2 W w' d LR NR MR ∧ Ext W w' := fun c W hc => by rw [hRB, hLR, hNR, hMR]; exact sRemoveFrom_any c Lc Mc Nc y W hc
  have Hrm := Lib.hid (fun q : RB = true => (show keptB LR NR MR = true by rw [hRB] at q; rw [hLR, hNR, hMR, q]; exact rm_fact q))
  clear hRB hLR hNR hMR
  have kc0 := hBc.cell (i := 0) (v := .slice aLc Lc.length cLc) rfl
  have kc1 := hBc.cell (i := 1) (v := .int .i64 Nc) rfl
  have kc2 := hBc.cell (i := 2) (v := .slice aMc Mc.length cMc) rfl
  rw [hV1] at kc0 kc1 kc2
  have HV1 := Lib.hid hV1
  clear hV1
  go_wp2_with fail
  rw [← HV1.out]
  clear kc0 kc1 kc2
  refine (cA _ _ hIc).mono ?_
  rintro e w2 ⟨d, rfl, ⟨v1, v2, rfl, h1, h2, -⟩, hE⟩
  obtain ⟨aLd, cLd, rfl, -⟩ := h1.shape
  obtain ⟨aMd, cMd, rfl, -⟩ := h2.shape
  have hK : IsK w2 (.agg #[.slice aLd LR.length cLd, .int .i64 NR, .slice aMd MR.length cMd]) LR NR MR := ⟨_, _, rfl, h1.ints, h2.ints⟩
  clear h1 h2
  replace hP := hP.ext hE
  replace hBc := hBc.ext hE
  replace hIc := hIc.ext hE
  clear hE
  replace hBc := hBc.alloc (.cells #[.slice aLd LR.length cLd, .int .i64 NR, .slice aMd MR.length cMd] 28)
  replace hIc := hIc.ext ((Ext.refl w2).alloc (.cells #[.slice aLd LR.length cLd, .int .i64 NR, .slice aMd MR.length cMd] 28))
  have hBd := Blk.new w2 28 #[.slice aLd LR.length cLd, .int .i64 NR, .slice aMd MR.length cMd]
  have hId := (hK).ext ((Ext.refl w2).alloc (.cells #[.slice aLd LR.length cLd, .int .i64 NR, .slice aMd MR.length cMd] 28))
  have eN := (Ext.refl w2).alloc (.cells #[.slice aLd LR.length cLd, .int .i64 NR, .slice aMd MR.length cMd] 28)
  obtain ⟨V2, hV2⟩ : ∃ x, x = w2.alloc (.cells #[.slice aLd LR.length cLd, .int .i64 NR, .slice aMd MR.length cMd] 28) := ⟨_, rfl⟩
  rw [← hV2] at hBc hIc hBd hId eN
  replace hP := hP.ext eN
  clear eN
  clear hK
  have kc0 := hBc.cell (i := 0) (v := .slice aLc Lc.length cLc) rfl
  have kc1 := hBc.cell (i := 1) (v := .int .i64 Nc) rfl
  have kc2 := hBc.cell (i := 2) (v := .slice aMc Mc.length cMc) rfl
  have kd0 := hBd.cell (i := 0) (v := .slice aLd LR.length cLd) rfl
  have kd1 := hBd.cell (i := 1) (v := .int .i64 NR) rfl
  have kd2 := hBd.cell (i := 2) (v := .slice aMd MR.length cMd) rfl
  rw [hV2] at kc0 kc1 kc2 kd0 kd1 kd2
  have HV2 := Lib.hid hV2
  clear hV2
  go_wp2_with fail
  rw [← HV2.out]
  clear kc0 kc1 kc2 kd0 kd1 kd2
  refine (cB _ _ hIc).mono ?_
  rintro e w3 ⟨d, rfl, ⟨v1, v2, rfl, h1, h2, -⟩, hE⟩
  obtain ⟨aLe, cLe, rfl, -⟩ := h1.shape
  obtain ⟨aMe, cMe, rfl, -⟩ := h2.shape
  have hK : IsK w3 (.agg #[.slice aLe LR.length cLe, .int .i64 NR, .slice aMe MR.length cMe]) LR NR MR := ⟨_, _, rfl, h1.ints, h2.ints⟩
  clear h1 h2
  replace hP := hP.ext hE
  replace hBc := hBc.ext hE
  replace hIc := hIc.ext hE
  replace hBd := hBd.ext hE
  replace hId := hId.ext hE
  clear hE
  replace hBc := hBc.alloc (.cells #[.slice aLe LR.length cLe, .int .i64 NR, .slice aMe MR.length cMe] 28)
  replace hIc := hIc.ext ((Ext.refl w3).alloc (.cells #[.slice aLe LR.length cLe, .int .i64 NR, .slice aMe MR.length cMe] 28))
  replace hBd := hBd.alloc (.cells #[.slice aLe LR.length cLe, .int .i64 NR, .slice aMe MR.length cMe] 28)
  replace hId := hId.ext ((Ext.refl w3).alloc (.cells #[.slice aLe LR.length cLe, .int .i64 NR, .slice aMe MR.length cMe] 28))
  have hBe := Blk.new w3 28 #[.slice aLe LR.length cLe, .int .i64 NR, .slice aMe MR.length cMe]
  have hIe := (hK).ext ((Ext.refl w3).alloc (.cells #[.slice aLe LR.length cLe, .int .i64 NR, .slice aMe MR.length cMe] 28))
  have eN := (Ext.refl w3).alloc (.cells #[.slice aLe LR.length cLe, .int .i64 NR, .slice aMe MR.length cMe] 28)
  obtain ⟨V3, hV3⟩ : ∃ x, x = w3.alloc (.cells #[.slice aLe LR.length cLe, .int .i64 NR, .slice aMe MR.length cMe] 28) := ⟨_, rfl⟩
  rw [← hV3] at hBc hIc hBd hId hBe hIe eN
  replace hP := hP.ext eN
  clear eN
  clear hK cA cB
  have kc0 := hBc.cell (i := 0) (v := .slice aLc Lc.length cLc) rfl
  have kc1 := hBc.cell (i := 1) (v := .int .i64 Nc) rfl
  have kc2 := hBc.cell (i := 2) (v := .slice aMc Mc.length cMc) rfl
  have kd0 := hBd.cell (i := 0) (v := .slice aLd LR.length cLd) rfl
  have kd1 := hBd.cell (i := 1) (v := .int .i64 NR) rfl
  have kd2 := hBd.cell (i := 2) (v := .slice aMd MR.length cMd) rfl
  have ke0 := hBe.cell (i := 0) (v := .slice aLe LR.length cLe) rfl
  have ke1 := hBe.cell (i := 1) (v := .int .i64 NR) rfl
  have ke2 := hBe.cell (i := 2) (v := .slice aMe MR.length cMe) rfl
  rw [hV3] at kc0 kc1 kc2 kd0 kd1 kd2 ke0 ke1 ke2
  have HV3 := Lib.hid hV3
  clear hV3
  go_wp2_with fail
  rw [← HV3.out]
  clear kc0 kc1 kc2 kd0 kd1 kd2 ke0 ke1 ke2
  refine (DrawIsKept_any _ _ _ hP.2).mono ?_
  rintro e w4 ⟨c, rfl, ⟨aLf, Lf, cLf, Nf, aMf, Mf, cMf, rfl, hK, hN⟩, hE⟩
  unfold KVal at hK ⊢
  replace hP := hP.ext hE
  replace hBc := hBc.ext hE
  replace hIc := hIc.ext hE
  replace hBd := hBd.ext hE
  replace hId := hId.ext hE
  replace hBe := hBe.ext hE
  replace hIe := hIe.ext hE
  clear hE hN
  replace hBc := hBc.alloc (.cells #[.slice aLf Lf.length cLf, .int .i64 Nf, .slice aMf Mf.length cMf] 28)
  replace hIc := hIc.ext ((Ext.refl w4).alloc (.cells #[.slice aLf Lf.length cLf, .int .i64 Nf, .slice aMf Mf.length cMf] 28))
  replace hBd := hBd.alloc (.cells #[.slice aLf Lf.length cLf, .int .i64 Nf, .slice aMf Mf.length cMf] 28)
  replace hId := hId.ext ((Ext.refl w4).alloc (.cells #[.slice aLf Lf.length cLf, .int .i64 Nf, .slice aMf Mf.length cMf] 28))
  replace hBe := hBe.alloc (.cells #[.slice aLf Lf.length cLf, .int .i64 Nf, .slice aMf Mf.length cMf] 28)
  replace hIe := hIe.ext ((Ext.refl w4).alloc (.cells #[.slice aLf Lf.length cLf, .int .i64 Nf, .slice aMf Mf.length cMf] 28))
  have hBf := Blk.new w4 28 #[.slice aLf Lf.length cLf, .int .i64 Nf, .slice aMf Mf.length cMf]
  have hIf := (hK.isK).ext ((Ext.refl w4).alloc (.cells #[.slice aLf Lf.length cLf, .int .i64 Nf, .slice aMf Mf.length cMf] 28))
  have eN := (Ext.refl w4).alloc (.cells #[.slice aLf Lf.length cLf, .int .i64 Nf, .slice aMf Mf.length cMf] 28)
  obtain ⟨V4, hV4⟩ : ∃ x, x = w4.alloc (.cells #[.slice aLf Lf.length cLf, .int .i64 Nf, .slice aMf Mf.length cMf] 28) := ⟨_, rfl⟩
  rw [← hV4] at hBc hIc hBd hId hBe hIe hBf hIf eN
  replace hP := hP.ext eN
  clear eN
  clear hK
  have kc0 := hBc.cell (i := 0) (v := .slice aLc Lc.length cLc) rfl
  have kc1 := hBc.cell (i := 1) (v := .int .i64 Nc) rfl
  have kc2 := hBc.cell (i := 2) (v := .slice aMc Mc.length cMc) rfl
  have kd0 := hBd.cell (i := 0) (v := .slice aLd LR.length cLd) rfl
  have kd1 := hBd.cell (i := 1) (v := .int .i64 NR) rfl
  have kd2 := hBd.cell (i := 2) (v := .slice aMd MR.length cMd) rfl
  have ke0 := hBe.cell (i := 0) (v := .slice aLe LR.length cLe) rfl
  have ke1 := hBe.cell (i := 1) (v := .int .i64 NR) rfl
  have ke2 := hBe.cell (i := 2) (v := .slice aMe MR.length cMe) rfl
  have kf0 := hBf.cell (i := 0) (v := .slice aLf Lf.length cLf) rfl
  have kf1 := hBf.cell (i := 1) (v := .int .i64 Nf) rfl
  have kf2 := hBf.cell (i := 2) (v := .slice aMf Mf.length cMf) rfl
  rw [hV4] at kc0 kc1 kc2 kd0 kd1 kd2 ke0 ke1 ke2 kf0 kf1 kf2
  have HV4 := Lib.hid hV4
  clear hV4
  go_wp2_with fail
  rw [← HV4.out]
  clear kc0 kc1 kc2 kd0 kd1 kd2 ke0 ke1 ke2 kf0 kf1 kf2
  refine (DrawNewKept_any _ _ _ hP.2).mono ?_
  rintro e w5 ⟨aLg, Lg, cLg, s, rfl, hO, hE⟩
  replace hP := hP.ext hE
  replace hBc := hBc.ext hE
  replace hIc := hIc.ext hE
  replace hBd := hBd.ext hE
  replace hId := hId.ext hE
  replace hBe := hBe.ext hE
  replace hIe := hIe.ext hE
  replace hBf := hBf.ext hE
  replace hIf := hIf.ext hE
  clear hE
  replace hBc := hBc.alloc (.cells #[.slice aLg Lg.length cLg] 26)
  replace hIc := hIc.ext ((Ext.refl w5).alloc (.cells #[.slice aLg Lg.length cLg] 26))
  replace hBd := hBd.alloc (.cells #[.slice aLg Lg.length cLg] 26)
  replace hId := hId.ext ((Ext.refl w5).alloc (.cells #[.slice aLg Lg.length cLg] 26))
  replace hBe := hBe.alloc (.cells #[.slice aLg Lg.length cLg] 26)
  replace hIe := hIe.ext ((Ext.refl w5).alloc (.cells #[.slice aLg Lg.length cLg] 26))
  replace hBf := hBf.alloc (.cells #[.slice aLg Lg.length cLg] 26)
  replace hIf := hIf.ext ((Ext.refl w5).alloc (.cells #[.slice aLg Lg.length cLg] 26))
  have hBg := Blk.new w5 26 #[.slice aLg Lg.length cLg]
  have hIg := (hO.ints).ext ((Ext.refl w5).alloc (.cells #[.slice aLg Lg.length cLg] 26))
  have eN := (Ext.refl w5).alloc (.cells #[.slice aLg Lg.length cLg] 26)
  obtain ⟨V5, hV5⟩ : ∃ x, x = w5.alloc (.cells #[.slice aLg Lg.length cLg] 26) := ⟨_, rfl⟩
  rw [← hV5] at hBc hIc hBd hId hBe hIe hBf hIf hBg hIg eN
  replace hP := hP.ext eN
  clear eN
  clear hO
  obtain ⟨NB, hNB⟩ : ∃ q, q = isSetB Lg s := ⟨_, rfl⟩
  obtain ⟨LN, hLN⟩ : ∃ q, q = nkL Lg s := ⟨_, rfl⟩
  obtain ⟨NN, hNN⟩ : ∃ q, q = nkN Lg s := ⟨_, rfl⟩
  obtain ⟨MN, hMN⟩ : ∃ q, q = tabF Lg s s := ⟨_, rfl⟩
  have cA : ∀ u W, Ints W u Lg → Calls Try.prog 12 #[.agg #[u], .int .i64 s] W fun e w' => ∃ d, e = .returned (.tuple #[d, .bool NB]) ∧ OwnK2 W w' d LN NN MN ∧ Ext W w' := fun u W hu => by rw [hNB, hLN, hNN, hMN]; exact NewKept_any u Lg s W hu
  have cB : ∀ u W, Ints W u Lg → Calls Try.prog 23 #[.agg #[u], .int .i64 s] W fun e w' => ∃ d, e = .returned (.tuple #[d, .bool NB]) ∧ OwnK2 W w' d LN NN MN ∧ Ext W w' := fun u W hu => by rw [hNB, hLN, hNN, hMN]; exact sNewKept_any u Lg s W hu
  clear hNB hLN hNN hMN
  have kc0 := hBc.cell (i := 0) (v := .slice aLc Lc.length cLc) rfl
  have kc1 := hBc.cell (i := 1) (v := .int .i64 Nc) rfl
  have kc2 := hBc.cell (i := 2) (v := .slice aMc Mc.length cMc) rfl
  have kd0 := hBd.cell (i := 0) (v := .slice aLd LR.length cLd) rfl
  have kd1 := hBd.cell (i := 1) (v := .int .i64 NR) rfl
  have kd2 := hBd.cell (i := 2) (v := .slice aMd MR.length cMd) rfl
  have ke0 := hBe.cell (i := 0) (v := .slice aLe LR.length cLe) rfl
  have ke1 := hBe.cell (i := 1) (v := .int .i64 NR) rfl
  have ke2 := hBe.cell (i := 2) (v := .slice aMe MR.length cMe) rfl
  have kf0 := hBf.cell (i := 0) (v := .slice aLf Lf.length cLf) rfl
  have kf1 := hBf.cell (i := 1) (v := .int .i64 Nf) rfl
  have kf2 := hBf.cell (i := 2) (v := .slice aMf Mf.length cMf) rfl
  have kg0 := hBg.cell (i := 0) (v := .slice aLg Lg.length cLg) rfl
  rw [hV5] at kc0 kc1 kc2 kd0 kd1 kd2 ke0 ke1 ke2 kf0 kf1 kf2 kg0
  have HV5 := Lib.hid hV5
  clear hV5
  go_wp2_with fail
  rw [← HV5.out]
  clear kc0 kc1 kc2 kd0 kd1 kd2 ke0 ke1 ke2 kf0 kf1 kf2 kg0
  refine (cA _ _ hIg).mono ?_
  rintro e w6 ⟨d, rfl, ⟨v1, v2, rfl, h1, h2, -⟩, hE⟩
  obtain ⟨aLi, cLi, rfl, -⟩ := h1.shape
  obtain ⟨aMi, cMi, rfl, -⟩ := h2.shape
  have hK : IsK w6 (.agg #[.slice aLi LN.length cLi, .int .i64 NN, .slice aMi MN.length cMi]) LN NN MN := ⟨_, _, rfl, h1.ints, h2.ints⟩
  clear h1 h2
  replace hP := hP.ext hE
  replace hBc := hBc.ext hE
  replace hIc := hIc.ext hE
  replace hBd := hBd.ext hE
  replace hId := hId.ext hE
  replace hBe := hBe.ext hE
  replace hIe := hIe.ext hE
  replace hBf := hBf.ext hE
  replace hIf := hIf.ext hE
  replace hBg := hBg.ext hE
  replace hIg := hIg.ext hE
  clear hE
  replace hBc := hBc.alloc (.cells #[.slice aLi LN.length cLi, .int .i64 NN, .slice aMi MN.length cMi] 28)
  replace hIc := hIc.ext ((Ext.refl w6).alloc (.cells #[.slice aLi LN.length cLi, .int .i64 NN, .slice aMi MN.length cMi] 28))
  replace hBd := hBd.alloc (.cells #[.slice aLi LN.length cLi, .int .i64 NN, .slice aMi MN.length cMi] 28)
  replace hId := hId.ext ((Ext.refl w6).alloc (.cells #[.slice aLi LN.length cLi, .int .i64 NN, .slice aMi MN.length cMi] 28))
  replace hBe := hBe.alloc (.cells #[.slice aLi LN.length cLi, .int .i64 NN, .slice aMi MN.length cMi] 28)
  replace hIe := hIe.ext ((Ext.refl w6).alloc (.cells #[.slice aLi LN.length cLi, .int .i64 NN, .slice aMi MN.length cMi] 28))
  replace hBf := hBf.alloc (.cells #[.slice aLi LN.length cLi, .int .i64 NN, .slice aMi MN.length cMi] 28)
  replace hIf := hIf.ext ((Ext.refl w6).alloc (.cells #[.slice aLi LN.length cLi, .int .i64 NN, .slice aMi MN.length cMi] 28))
  replace hBg := hBg.alloc (.cells #[.slice aLi LN.length cLi, .int .i64 NN, .slice aMi MN.length cMi] 28)
  replace hIg := hIg.ext ((Ext.refl w6).alloc (.cells #[.slice aLi LN.length cLi, .int .i64 NN, .slice aMi MN.length cMi] 28))
  have hBi := Blk.new w6 28 #[.slice aLi LN.length cLi, .int .i64 NN, .slice aMi MN.length cMi]
  have hIi := (hK).ext ((Ext.refl w6).alloc (.cells #[.slice aLi LN.length cLi, .int .i64 NN, .slice aMi MN.length cMi] 28))
  have eN := (Ext.refl w6).alloc (.cells #[.slice aLi LN.length cLi, .int .i64 NN, .slice aMi MN.length cMi] 28)
  obtain ⟨V6, hV6⟩ : ∃ x, x = w6.alloc (.cells #[.slice aLi LN.length cLi, .int .i64 NN, .slice aMi MN.length cMi] 28) := ⟨_, rfl⟩
  rw [← hV6] at hBc hIc hBd hId hBe hIe hBf hIf hBg hIg hBi hIi eN
  replace hP := hP.ext eN
  clear eN
  clear hK
  have kc0 := hBc.cell (i := 0) (v := .slice aLc Lc.length cLc) rfl
  have kc1 := hBc.cell (i := 1) (v := .int .i64 Nc) rfl
  have kc2 := hBc.cell (i := 2) (v := .slice aMc Mc.length cMc) rfl
  have kd0 := hBd.cell (i := 0) (v := .slice aLd LR.length cLd) rfl
  have kd1 := hBd.cell (i := 1) (v := .int .i64 NR) rfl
  have kd2 := hBd.cell (i := 2) (v := .slice aMd MR.length cMd) rfl
  have ke0 := hBe.cell (i := 0) (v := .slice aLe LR.length cLe) rfl
  have ke1 := hBe.cell (i := 1) (v := .int .i64 NR) rfl
  have ke2 := hBe.cell (i := 2) (v := .slice aMe MR.length cMe) rfl
  have kf0 := hBf.cell (i := 0) (v := .slice aLf Lf.length cLf) rfl
  have kf1 := hBf.cell (i := 1) (v := .int .i64 Nf) rfl
  have kf2 := hBf.cell (i := 2) (v := .slice aMf Mf.length cMf) rfl
  have kg0 := hBg.cell (i := 0) (v := .slice aLg Lg.length cLg) rfl
  have ki0 := hBi.cell (i := 0) (v := .slice aLi LN.length cLi) rfl
  have ki1 := hBi.cell (i := 1) (v := .int .i64 NN) rfl
  have ki2 := hBi.cell (i := 2) (v := .slice aMi MN.length cMi) rfl
  rw [hV6] at kc0 kc1 kc2 kd0 kd1 kd2 ke0 ke1 ke2 kf0 kf1 kf2 kg0 ki0 ki1 ki2
  have HV6 := Lib.hid hV6
  clear hV6
  go_wp2_with fail
  rw [← HV6.out]
  clear kc0 kc1 kc2 kd0 kd1 kd2 ke0 ke1 ke2 kf0 kf1 kf2 kg0 ki0 ki1 ki2
  refine (cB _ _ hIg).mono ?_
  rintro e w7 ⟨d, rfl, ⟨v1, v2, rfl, h1, h2, -⟩, hE⟩
  obtain ⟨aLj, cLj, rfl, -⟩ := h1.shape
  obtain ⟨aMj, cMj, rfl, -⟩ := h2.shape
  have hK : IsK w7 (.agg #[.slice aLj LN.length cLj, .int .i64 NN, .slice aMj MN.length cMj]) LN NN MN := ⟨_, _, rfl, h1.ints, h2.ints⟩
  clear h1 h2
  replace hP := hP.ext hE
  replace hBc := hBc.ext hE
  replace hIc := hIc.ext hE
  replace hBd := hBd.ext hE
  replace hId := hId.ext hE
  replace hBe := hBe.ext hE
  replace hIe := hIe.ext hE
  replace hBf := hBf.ext hE
  replace hIf := hIf.ext hE
  replace hBg := hBg.ext hE
  replace hIg := hIg.ext hE
  replace hBi := hBi.ext hE
  replace hIi := hIi.ext hE
  clear hE
  replace hBc := hBc.alloc (.cells #[.slice aLj LN.length cLj, .int .i64 NN, .slice aMj MN.length cMj] 28)
  replace hIc := hIc.ext ((Ext.refl w7).alloc (.cells #[.slice aLj LN.length cLj, .int .i64 NN, .slice aMj MN.length cMj] 28))
  replace hBd := hBd.alloc (.cells #[.slice aLj LN.length cLj, .int .i64 NN, .slice aMj MN.length cMj] 28)
  replace hId := hId.ext ((Ext.refl w7).alloc (.cells #[.slice aLj LN.length cLj, .int .i64 NN, .slice aMj MN.length cMj] 28))
  replace hBe := hBe.alloc (.cells #[.slice aLj LN.length cLj, .int .i64 NN, .slice aMj MN.length cMj] 28)
  replace hIe := hIe.ext ((Ext.refl w7).alloc (.cells #[.slice aLj LN.length cLj, .int .i64 NN, .slice aMj MN.length cMj] 28))
  replace hBf := hBf.alloc (.cells #[.slice aLj LN.length cLj, .int .i64 NN, .slice aMj MN.length cMj] 28)
  replace hIf := hIf.ext ((Ext.refl w7).alloc (.cells #[.slice aLj LN.length cLj, .int .i64 NN, .slice aMj MN.length cMj] 28))
  replace hBg := hBg.alloc (.cells #[.slice aLj LN.length cLj, .int .i64 NN, .slice aMj MN.length cMj] 28)
  replace hIg := hIg.ext ((Ext.refl w7).alloc (.cells #[.slice aLj LN.length cLj, .int .i64 NN, .slice aMj MN.length cMj] 28))
  replace hBi := hBi.alloc (.cells #[.slice aLj LN.length cLj, .int .i64 NN, .slice aMj MN.length cMj] 28)
  replace hIi := hIi.ext ((Ext.refl w7).alloc (.cells #[.slice aLj LN.length cLj, .int .i64 NN, .slice aMj MN.length cMj] 28))
  have hBj := Blk.new w7 28 #[.slice aLj LN.length cLj, .int .i64 NN, .slice aMj MN.length cMj]
  have hIj := (hK).ext ((Ext.refl w7).alloc (.cells #[.slice aLj LN.length cLj, .int .i64 NN, .slice aMj MN.length cMj] 28))
  have eN := (Ext.refl w7).alloc (.cells #[.slice aLj LN.length cLj, .int .i64 NN, .slice aMj MN.length cMj] 28)
  obtain ⟨V7, hV7⟩ : ∃ x, x = w7.alloc (.cells #[.slice aLj LN.length cLj, .int .i64 NN, .slice aMj MN.length cMj] 28) := ⟨_, rfl⟩
  rw [← hV7] at hBc hIc hBd hId hBe hIe hBf hIf hBg hIg hBi hIi hBj hIj eN
  replace hP := hP.ext eN
  clear eN
  clear hK cA cB
  have kc0 := hBc.cell (i := 0) (v := .slice aLc Lc.length cLc) rfl
  have kc1 := hBc.cell (i := 1) (v := .int .i64 Nc) rfl
  have kc2 := hBc.cell (i := 2) (v := .slice aMc Mc.length cMc) rfl
  have kd0 := hBd.cell (i := 0) (v := .slice aLd LR.length cLd) rfl
  have kd1 := hBd.cell (i := 1) (v := .int .i64 NR) rfl
  have kd2 := hBd.cell (i := 2) (v := .slice aMd MR.length cMd) rfl
  have ke0 := hBe.cell (i := 0) (v := .slice aLe LR.length cLe) rfl
  have ke1 := hBe.cell (i := 1) (v := .int .i64 NR) rfl
  have ke2 := hBe.cell (i := 2) (v := .slice aMe MR.length cMe) rfl
  have kf0 := hBf.cell (i := 0) (v := .slice aLf Lf.length cLf) rfl
  have kf1 := hBf.cell (i := 1) (v := .int .i64 Nf) rfl
  have kf2 := hBf.cell (i := 2) (v := .slice aMf Mf.length cMf) rfl
  have kg0 := hBg.cell (i := 0) (v := .slice aLg Lg.length cLg) rfl
  have ki0 := hBi.cell (i := 0) (v := .slice aLi LN.length cLi) rfl
  have ki1 := hBi.cell (i := 1) (v := .int .i64 NN) rfl
  have ki2 := hBi.cell (i := 2) (v := .slice aMi MN.length cMi) rfl
  have kj0 := hBj.cell (i := 0) (v := .slice aLj LN.length cLj) rfl
  have kj1 := hBj.cell (i := 1) (v := .int .i64 NN) rfl
  have kj2 := hBj.cell (i := 2) (v := .slice aMj MN.length cMj) rfl
  rw [hV7] at kc0 kc1 kc2 kd0 kd1 kd2 ke0 ke1 ke2 kf0 kf1 kf2 kg0 ki0 ki1 ki2 kj0 kj1 kj2
  have HV7 := Lib.hid hV7
  clear hV7
  go_wp2_with fail
  rw [← HV7.out]
  clear kc0 kc1 kc2 kd0 kd1 kd2 ke0 ke1 ke2 kf0 kf1 kf2 kg0 ki0 ki1 ki2 kj0 kj1 kj2
  refine (DrawEqualKept_any _ _ _ hP.2).mono ?_
  rintro e w8 ⟨c, d, rfl, ⟨aLl, Ll, cLl, Nl, aMl, Ml, cMl, rfl, hK, -⟩, ⟨aLm, Lm, cLm, Nm, aMm, Mm, cMm, rfl, hK2, -⟩, hE⟩
  unfold KVal at hK hK2 ⊢
  replace hP := hP.ext hE
  replace hBc := hBc.ext hE
  replace hIc := hIc.ext hE
  replace hBd := hBd.ext hE
  replace hId := hId.ext hE
  replace hBe := hBe.ext hE
  replace hIe := hIe.ext hE
  replace hBf := hBf.ext hE
  replace hIf := hIf.ext hE
  replace hBg := hBg.ext hE
  replace hIg := hIg.ext hE
  replace hBi := hBi.ext hE
  replace hIi := hIi.ext hE
  replace hBj := hBj.ext hE
  replace hIj := hIj.ext hE
  clear hE
  replace hBc := (hBc.alloc (.cells #[.slice aLl Ll.length cLl, .int .i64 Nl, .slice aMl Ml.length cMl] 28)).alloc (.cells #[.slice aLm Lm.length cLm, .int .i64 Nm, .slice aMm Mm.length cMm] 28)
  replace hIc := (hIc.ext ((Ext.refl w8).alloc (.cells #[.slice aLl Ll.length cLl, .int .i64 Nl, .slice aMl Ml.length cMl] 28))).ext ((Ext.refl _).alloc (.cells #[.slice aLm Lm.length cLm, .int .i64 Nm, .slice aMm Mm.length cMm] 28))
  replace hBd := (hBd.alloc (.cells #[.slice aLl Ll.length cLl, .int .i64 Nl, .slice aMl Ml.length cMl] 28)).alloc (.cells #[.slice aLm Lm.length cLm, .int .i64 Nm, .slice aMm Mm.length cMm] 28)
  replace hId := (hId.ext ((Ext.refl w8).alloc (.cells #[.slice aLl Ll.length cLl, .int .i64 Nl, .slice aMl Ml.length cMl] 28))).ext ((Ext.refl _).alloc (.cells #[.slice aLm Lm.length cLm, .int .i64 Nm, .slice aMm Mm.length cMm] 28))
  replace hBe := (hBe.alloc (.cells #[.slice aLl Ll.length cLl, .int .i64 Nl, .slice aMl Ml.length cMl] 28)).alloc (.cells #[.slice aLm Lm.length cLm, .int .i64 Nm, .slice aMm Mm.length cMm] 28)
  replace hIe := (hIe.ext ((Ext.refl w8).alloc (.cells #[.slice aLl Ll.length cLl, .int .i64 Nl, .slice aMl Ml.length cMl] 28))).ext ((Ext.refl _).alloc (.cells #[.slice aLm Lm.length cLm, .int .i64 Nm, .slice aMm Mm.length cMm] 28))
  replace hBf := (hBf.alloc (.cells #[.slice aLl Ll.length cLl, .int .i64 Nl, .slice aMl Ml.length cMl] 28)).alloc (.cells #[.slice aLm Lm.length cLm, .int .i64 Nm, .slice aMm Mm.length cMm] 28)
  replace hIf := (hIf.ext ((Ext.refl w8).alloc (.cells #[.slice aLl Ll.length cLl, .int .i64 Nl, .slice aMl Ml.length cMl] 28))).ext ((Ext.refl _).alloc (.cells #[.slice aLm Lm.length cLm, .int .i64 Nm, .slice aMm Mm.length cMm] 28))
  replace hBg := (hBg.alloc (.cells #[.slice aLl Ll.length cLl, .int .i64 Nl, .slice aMl Ml.length cMl] 28)).alloc (.cells #[.slice aLm Lm.length cLm, .int .i64 Nm, .slice aMm Mm.length cMm] 28)
  replace hIg := (hIg.ext ((Ext.refl w8).alloc (.cells #[.slice aLl Ll.length cLl, .int .i64 Nl, .slice aMl Ml.length cMl] 28))).ext ((Ext.refl _).alloc (.cells #[.slice aLm Lm.length cLm, .int .i64 Nm, .slice aMm Mm.length cMm] 28))
  replace hBi := (hBi.alloc (.cells #[.slice aLl Ll.length cLl, .int .i64 Nl, .slice aMl Ml.length cMl] 28)).alloc (.cells #[.slice aLm Lm.length cLm, .int .i64 Nm, .slice aMm Mm.length cMm] 28)
  replace hIi := (hIi.ext ((Ext.refl w8).alloc (.cells #[.slice aLl Ll.length cLl, .int .i64 Nl, .slice aMl Ml.length cMl] 28))).ext ((Ext.refl _).alloc (.cells #[.slice aLm Lm.length cLm, .int .i64 Nm, .slice aMm Mm.length cMm] 28))
  replace hBj := (hBj.alloc (.cells #[.slice aLl Ll.length cLl, .int .i64 Nl, .slice aMl Ml.length cMl] 28)).alloc (.cells #[.slice aLm Lm.length cLm, .int .i64 Nm, .slice aMm Mm.length cMm] 28)
  replace hIj := (hIj.ext ((Ext.refl w8).alloc (.cells #[.slice aLl Ll.length cLl, .int .i64 Nl, .slice aMl Ml.length cMl] 28))).ext ((Ext.refl _).alloc (.cells #[.slice aLm Lm.length cLm, .int .i64 Nm, .slice aMm Mm.length cMm] 28))
  have hBl := (Blk.new w8 28 #[.slice aLl Ll.length cLl, .int .i64 Nl, .slice aMl Ml.length cMl]).alloc (.cells #[.slice aLm Lm.length cLm, .int .i64 Nm, .slice aMm Mm.length cMm] 28)
  have hBm := Blk.new (w8.alloc (.cells #[.slice aLl Ll.length cLl, .int .i64 Nl, .slice aMl Ml.length cMl] 28)) 28 #[.slice aLm Lm.length cLm, .int .i64 Nm, .slice aMm Mm.length cMm]
  have hIl := (hK.isK.ext ((Ext.refl w8).alloc (.cells #[.slice aLl Ll.length cLl, .int .i64 Nl, .slice aMl Ml.length cMl] 28))).ext ((Ext.refl _).alloc (.cells #[.slice aLm Lm.length cLm, .int .i64 Nm, .slice aMm Mm.length cMm] 28))
  have hIm := (hK2.isK.ext ((Ext.refl w8).alloc (.cells #[.slice aLl Ll.length cLl, .int .i64 Nl, .slice aMl Ml.length cMl] 28))).ext ((Ext.refl _).alloc (.cells #[.slice aLm Lm.length cLm, .int .i64 Nm, .slice aMm Mm.length cMm] 28))
  replace hP := (hP.ext ((Ext.refl w8).alloc (.cells #[.slice aLl Ll.length cLl, .int .i64 Nl, .slice aMl Ml.length cMl] 28))).ext ((Ext.refl _).alloc (.cells #[.slice aLm Lm.length cLm, .int .i64 Nm, .slice aMm Mm.length cMm] 28))
  rw [show (w8.alloc (.cells #[.slice aLl Ll.length cLl, .int .i64 Nl, .slice aMl Ml.length cMl] 28)).heap.size = w8.heap.size + 1 by simp] at hBm
  clear hK hK2
  obtain ⟨V8, hV8⟩ : ∃ x, x = (w8.alloc (.cells #[.slice aLl Ll.length cLl, .int .i64 Nl, .slice aMl Ml.length cMl] 28)).alloc (.cells #[.slice aLm Lm.length cLm, .int .i64 Nm, .slice aMm Mm.length cMm] 28) := ⟨_, rfl⟩
  rw [← hV8] at hBc hIc hBd hId hBe hIe hBf hIf hBg hIg hBi hIi hBj hIj hBl hIl hBm hIm hP
  have d1 := fun W (hW : Ext V8 W) => sEqualKept_any _ _ LR MR NR LR MR NR W (hId.ext hW) (hIe.ext hW)
  have d2 := fun W (hW : Ext V8 W) => IsKept_any _ LR MR NR W (hIe.ext hW)
  have d3 := fun W (hW : Ext V8 W) => IsKept_any _ Lf Mf Nf W (hIf.ext hW)
  have d4 := fun W (hW : Ext V8 W) => sIsKept_any _ Lf Mf Nf W (hIf.ext hW)
  have d5 := fun W (hW : Ext V8 W) => EnergyOfKept_any _ Lf Mf Nf W (hIf.ext hW)
  have d6 := fun W (hW : Ext V8 W) => sEnergyOfKept_any _ Lf Mf Nf W (hIf.ext hW)
  have d7 := fun W (hW : Ext V8 W) => SumsOfKept_any _ Lf Mf Nf W (hIf.ext hW)
  have d8 := fun W (hW : Ext V8 W) => sSumsOfKept_any _ Lf Mf Nf W (hIf.ext hW)
  have d9 := fun W (hW : Ext V8 W) => sEqualKept_any _ _ LN MN NN LN MN NN W (hIi.ext hW) (hIj.ext hW)
  have da := fun W (hW : Ext V8 W) => EqualKept_any _ _ Ll Ml Nl Lm Mm Nm W (hIl.ext hW) (hIm.ext hW)
  have db := fun W (hW : Ext V8 W) => sEqualKept_any _ _ Ll Ml Nl Lm Mm Nm W (hIl.ext hW) (hIm.ext hW)
  rw [eqK_refl] at d1 d9
  obtain ⟨q1, hq1⟩ : ∃ q, q = keptB Lf Nf Mf := ⟨_, rfl⟩
  obtain ⟨q2, hq2⟩ : ∃ q, q = engF Lf Nf Mf := ⟨_, rfl⟩
  obtain ⟨q3, hq3⟩ : ∃ q, q = sukF Lf Nf Mf := ⟨_, rfl⟩
  obtain ⟨q4, hq4⟩ : ∃ q, q = eqK Ll Ml Nl Lm Mm Nm := ⟨_, rfl⟩
  rw [← hq1] at d3 d4
  rw [← hq2] at d5 d6
  rw [← hq3] at d7 d8
  rw [← hq4] at da db
  clear hq1 hq2 hq3 hq4
  have uc0 := fun U => (hBc.ext (lat_ext V8 U)).cell (i := 0) (v := .slice aLc Lc.length cLc) rfl
  have uc1 := fun U => (hBc.ext (lat_ext V8 U)).cell (i := 1) (v := .int .i64 Nc) rfl
  have uc2 := fun U => (hBc.ext (lat_ext V8 U)).cell (i := 2) (v := .slice aMc Mc.length cMc) rfl
  have ud0 := fun U => (hBd.ext (lat_ext V8 U)).cell (i := 0) (v := .slice aLd LR.length cLd) rfl
  have ud1 := fun U => (hBd.ext (lat_ext V8 U)).cell (i := 1) (v := .int .i64 NR) rfl
  have ud2 := fun U => (hBd.ext (lat_ext V8 U)).cell (i := 2) (v := .slice aMd MR.length cMd) rfl
  have ue0 := fun U => (hBe.ext (lat_ext V8 U)).cell (i := 0) (v := .slice aLe LR.length cLe) rfl
  have ue1 := fun U => (hBe.ext (lat_ext V8 U)).cell (i := 1) (v := .int .i64 NR) rfl
  have ue2 := fun U => (hBe.ext (lat_ext V8 U)).cell (i := 2) (v := .slice aMe MR.length cMe) rfl
  have uf0 := fun U => (hBf.ext (lat_ext V8 U)).cell (i := 0) (v := .slice aLf Lf.length cLf) rfl
  have uf1 := fun U => (hBf.ext (lat_ext V8 U)).cell (i := 1) (v := .int .i64 Nf) rfl
  have uf2 := fun U => (hBf.ext (lat_ext V8 U)).cell (i := 2) (v := .slice aMf Mf.length cMf) rfl
  have ug0 := fun U => (hBg.ext (lat_ext V8 U)).cell (i := 0) (v := .slice aLg Lg.length cLg) rfl
  have ui0 := fun U => (hBi.ext (lat_ext V8 U)).cell (i := 0) (v := .slice aLi LN.length cLi) rfl
  have ui1 := fun U => (hBi.ext (lat_ext V8 U)).cell (i := 1) (v := .int .i64 NN) rfl
  have ui2 := fun U => (hBi.ext (lat_ext V8 U)).cell (i := 2) (v := .slice aMi MN.length cMi) rfl
  have uj0 := fun U => (hBj.ext (lat_ext V8 U)).cell (i := 0) (v := .slice aLj LN.length cLj) rfl
  have uj1 := fun U => (hBj.ext (lat_ext V8 U)).cell (i := 1) (v := .int .i64 NN) rfl
  have uj2 := fun U => (hBj.ext (lat_ext V8 U)).cell (i := 2) (v := .slice aMj MN.length cMj) rfl
  have ul0 := fun U => (hBl.ext (lat_ext V8 U)).cell (i := 0) (v := .slice aLl Ll.length cLl) rfl
  have ul1 := fun U => (hBl.ext (lat_ext V8 U)).cell (i := 1) (v := .int .i64 Nl) rfl
  have ul2 := fun U => (hBl.ext (lat_ext V8 U)).cell (i := 2) (v := .slice aMl Ml.length cMl) rfl
  have um0 := fun U => (hBm.ext (lat_ext V8 U)).cell (i := 0) (v := .slice aLm Lm.length cLm) rfl
  have um1 := fun U => (hBm.ext (lat_ext V8 U)).cell (i := 1) (v := .int .i64 Nm) rfl
  have um2 := fun U => (hBm.ext (lat_ext V8 U)).cell (i := 2) (v := .slice aMm Mm.length cMm) rfl
  have HV8 := Lib.hid hV8
  clear hV8
  go_wp2_with fail
  rw [← HV8.out]
  have hE := Ext.refl V8
  cases RB
  · as_aux_lemma =>
      (refine wp_region_lat (V8) (by kernel_rfl) (by kernel_rfl) hE ?_); (repeat (go_big_quiet_step (first | (go_at_call 11; first | (with_reducible exact Calls.lat (d1 _ (lat_ext _ _))) | (with_reducible exact Calls.lat (d9 _ (lat_ext _ _))) | (with_reducible exact Calls.lat (db _ (lat_ext _ _)))) | (go_at_call 14; first | (with_reducible exact Calls.lat (d2 _ (lat_ext _ _))) | (with_reducible exact Calls.lat (d3 _ (lat_ext _ _)))) | (go_at_call 25; first | (with_reducible exact Calls.lat (d4 _ (lat_ext _ _)))) | (go_at_call 15; first | (with_reducible exact Calls.lat (d5 _ (lat_ext _ _)))) | (go_at_call 26; first | (with_reducible exact Calls.lat (d6 _ (lat_ext _ _)))) | (go_at_call 17; first | (with_reducible exact Calls.lat (d7 _ (lat_ext _ _)))) | (go_at_call 27; first | (with_reducible exact Calls.lat (d8 _ (lat_ext _ _)))) | (go_at_call 28; first | (with_reducible exact Calls.lat (da _ (lat_ext _ _))))))); (refine wpQuiet_nil ?_); (intro W hE'); (replace hE := lat_of hE'); (clear hE')
      go_wp2_with fail
      go_ret
      exact ⟨rfl, hP.1.trans hE⟩
  · rw [Hrm.out rfl] at d2
    as_aux_lemma =>
      (refine wp_region_lat (V8) (by kernel_rfl) (by kernel_rfl) hE ?_); (repeat (go_big_quiet_step (first | (go_at_call 11; first | (with_reducible exact Calls.lat (d1 _ (lat_ext _ _))) | (with_reducible exact Calls.lat (d9 _ (lat_ext _ _))) | (with_reducible exact Calls.lat (db _ (lat_ext _ _)))) | (go_at_call 14; first | (with_reducible exact Calls.lat (d2 _ (lat_ext _ _))) | (with_reducible exact Calls.lat (d3 _ (lat_ext _ _)))) | (go_at_call 25; first | (with_reducible exact Calls.lat (d4 _ (lat_ext _ _)))) | (go_at_call 15; first | (with_reducible exact Calls.lat (d5 _ (lat_ext _ _)))) | (go_at_call 26; first | (with_reducible exact Calls.lat (d6 _ (lat_ext _ _)))) | (go_at_call 17; first | (with_reducible exact Calls.lat (d7 _ (lat_ext _ _)))) | (go_at_call 27; first | (with_reducible exact Calls.lat (d8 _ (lat_ext _ _)))) | (go_at_call 28; first | (with_reducible exact Calls.lat (da _ (lat_ext _ _))))))); (refine wpQuiet_nil ?_); (intro W hE'); (replace hE := lat_of hE'); (clear hE')
      go_wp2_with fail
      go_ret
      exact ⟨rfl, hP.1.trans hE⟩
end Go.Zz
