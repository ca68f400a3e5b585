/- SolutionsIn of the program. -/
import Derived.Test.YtgjomoedgmofbaaGr10
import Derived.Test.YtgjomoedgmofbaaGr9
import Derived.Deep.AppendLies
namespace Go.Zz
open Go.RowKit Go.Proofs
set_option maxHeartbeats 2000000
set_option maxRecDepth 8000

theorem OwnV.set_ne {w0 w : World} {v : Value} {n : Nat} (h : OwnV w0 w v n) {b i : Nat} (hp : v.ownBlock ≠ some b) (u : Value) : OwnV w0 (w.setCell ⟨b, i, none⟩ u) v n := by
  obtain ⟨L, h1, h2, h3, h4⟩ := h
  refine ⟨L, h1, h2, ⟨h3.1, ?_⟩, h4⟩
  rcases h3.2 with h | ⟨g, cap, cur, rfl, hg, hh, rest⟩
  · exact Or.inl h
  · refine Or.inr ⟨g, cap, cur, rfl, hg, ?_, rest⟩
    simp [Value.ownBlock] at hp
    rw [Below.heap_setCell _ _ _ _ (fun e => hp e)]; exact hh
theorem OwnV.not {T : TypeId} {w0 w : World} {v : Value} {n : Nat} (h : OwnV w0 w v n) {g : Nat} {cs : Array Value} (hB : Blk w g T cs) (hT : T ≠ 24) : v.ownBlock ≠ some g := fun e => by
  obtain ⟨L, -, -, h1, -⟩ := h
  rcases h1.2 with ⟨rfl, _⟩ | ⟨g', cap, cur, rfl, _, hh, _⟩
  · cases e
  · simp [Value.ownBlock] at e
    subst e
    have hB' : w.heap[g']? = some (.cells cs T (0, 0)) := hB
    rw [hB'] at hh
    simp at hh
    exact hT hh.2
theorem ExtGo {w w1 w2 : World} {o : Option Nat} (e : Ext w w1) (hg : w1.grownBy w2 o) : w.grownBy w2 o := by
  exact ⟨hg.os.trans e.os, hg.tape.trans e.tape, hg.output.trans e.output, Nat.le_trans e.size hg.size, fun i hi hne => by rw [hg.block i (Nat.lt_of_lt_of_le hi e.size) hne]; exact e.block i hi⟩
theorem solA1_any (vx : Value) (xs : List Int) (bO : Nat) (W0 w : World) (vo : Value) (n : Nat) (hI : Ints w vx xs) (hB : Blk w bO 88 #[vo]) (hO : OwnV W0 w vo n) (hE : Ext W0 w) (hn : n < 1000000) :
    Calls Try.prog 219 #[vx, .pointer (some ⟨bO, 0, none⟩)] w fun e w' => e = .returned (.bool false) ∧ ∃ vo', Blk w' bO 88 #[vo'] ∧ OwnV W0 w' vo' (n + 1) ∧ Fr bO vo.ownBlock w w' ∧ Nw vo.ownBlock w vo'.ownBlock := by
  have hob := hO.not hB (by decide)
  obtain ⟨ao, co, rfl, -⟩ := hO.shape
  have hne : ∀ k, (Value.slice ao n co).ownBlock = some k → k ≠ bO := fun k hk e => hob (by rw [hk, e])
  have kb : ∀ W, Ext w W → W.cell? ⟨bO, 0, none⟩ = some (.slice ao n co) := fun W hW => (hB.ext hW).cell (i := 0) rfl
  have cC := fun W (hW : Ext w W) => copyInts_any vx xs W (hI.ext hW)
  have HB := Lib.hid hB
  have HO := Lib.hid hO
  have hE0 := Ext.refl w
  have hED := (Ext.refl w).drew
  clear hB hO hI
  go_enter Try.func219, Try.ntmps219
  go_wp2_with fail
  first | (go_region_law (first | ((refine step_append1V rfl _ _ rfl W0 ?_ n ?_ ?_ ?_ ?_ ?_ ?_ ?_ ?_ ?_ hn ?_); (rotate_left 5); rfl; rfl; (focus (repeat (first | (with_reducible assumption) | (with_reducible exact Blk.new _ _ _) | ((with_reducible refine Blk.new' ?_); simp [go_sem]; done) | (with_reducible apply Blk.alloc) | (with_reducible apply Blk.drew)))); (focus (refine OwnV.ext HO.out ?_; repeat (first | assumption | exact Ext.refl _ | (apply And.left; assumption) | apply Ext.drew | apply Ext.alloc))); (focus (refine Ext.trans hE ?_; repeat (first | assumption | exact Ext.refl _ | (apply And.left; assumption) | apply Ext.drew | apply Ext.alloc))); (intro v2 w2 hO2 hG2 hN2; have hXD := Ext.alloc hXC (.cells #[.slice aC xs.length kC] 24); have hG3 := ExtGo hXD hG2; have hB2 := HB.out.grown hG3 hne; have hc2 := hB2.cell (i := 0) (v := .slice ao n co) rfl; have hf2 := hB2.free 0; obtain ⟨a2, c2, rfl, -⟩ := hO2.shape)) | (go_simp; go_at_call 145; ((with_reducible refine Calls.mono (cC _ (by repeat (first | assumption | exact Ext.refl _ | (apply And.left; assumption) | apply Ext.drew | apply Ext.alloc))) ?_); rintro e wC ⟨vC, rfl, hOC, hX⟩; have hXC := Ext.trans (a := w) (by repeat (first | assumption | exact Ext.refl _ | (apply And.left; assumption) | apply Ext.drew | apply Ext.alloc)) hX; obtain ⟨aC, kC, rfl, -⟩ := hOC.shape; have hXC1 := Ext.alloc hXC (.cells #[.slice aC xs.length kC] 24); have hXC2 := hXC1.drew; have hXC3 := hXC.drew)))) | (fail "the region")
  all_goals
    have hN3 : Nw (Value.slice ao n co).ownBlock (wC.alloc (.cells #[.slice aC xs.length kC] 24)) (Value.slice a2 (n + 1) c2).ownBlock := hN2
    have hG4 : (wC.alloc (.cells #[.slice aC xs.length kC] 24)).grownBy w2 (Value.slice ao n co).ownBlock := hG2
    have hB3 : Blk (w2.setCell ⟨bO, 0, none⟩ (.slice a2 (n + 1) c2)) bO 88 #[.slice a2 (n + 1) c2] := hB2.set 0 _
    have hO3 := hO2.set_ne (i := 0) (hO2.not hB2 (by decide)) (.slice a2 (n + 1) c2)
    have hF3 := ((hXD.fr bO (Value.slice ao n co).ownBlock).trans (Nw.refl _ _) (fr_grown hG4)).trans (Nw.refl _ _) (fr_set bO _ w2 0 (.slice a2 (n + 1) c2))
    go_wp2_with fail
    go_ret
    exact ⟨rfl, _, hB3, hO3, hF3, (Nw.refl _ _).trans hXD.size hN3⟩
/-- a made row as a block -/
theorem own_blk {w0 w : World} {g n : Nat} {l : List Int} (h : Own 3 w0 w (.slice (some ⟨g, 0, none⟩) n n) l) (hn : l.length = n) (h0 : 0 < n) : Blk w g 3 (l.map (Value.int .i64)).toArray := by
  obtain ⟨⟨h1, h2⟩, -⟩ := h
  rcases h2 with ⟨hv, -⟩ | ⟨g', cap, cur, hv, hg, hh, hnc, hcm, hcs, htk⟩
  · simp at hv
  · simp only [Value.slice.injEq, Option.some.injEq, Addr.mk.injEq, and_true] at hv
    obtain ⟨rfl, -, rfl⟩ := hv
    have e : cur = (l.map (Value.int .i64)).toArray := by
      apply Array.toList_inj.1
      rw [← htk, List.take_of_length_le (by simp [hcs]; omega)]
    rw [← e]; exact hh
theorem row_made {w : World} {g m : Nat} (h : Blk w g 3 ((List.replicate m (0 : Int)).map (Value.int .i64)).toArray) : RowX g m [] w := ⟨List.replicate m 0, by simp, by simp [castL], h⟩
theorem solFnA (u : Value) (c : List Int) (n : Nat) (hc : Hid (eqB c = true)) (hn : n ≤ 12) (p1 p2 : Value) (w : World) (hu : Ints w u c)
    (Inv : Nat → Nat → World → Prop) (Fin : World → Prop) (stop : List Nat → Bool)
    (hI0 : ∀ hi W, Ext w W → w.heap.size ≤ hi → hi ≤ W.heap.size → Inv hi 0 W) (hIc : ∀ hi k W, Inv hi k W → Ints W u c) (hIx : ∀ hi k W W', Inv hi k W → Ext W W' → Inv hi k W')
    (hIs : ∀ hi k W b i v, w.heap.size ≤ b → b < hi → Inv hi k W → Inv hi k (W.setCell ⟨b, i, none⟩ v))
    (hTake : ∀ hi k W X vx, k < cntF c n [] c.length [] → Inv hi k W → Ints W vx (castL X) → X.length = c.length → (∀ x ∈ X, 1 ≤ x ∧ x ≤ n) → Calls Try.prog 219 #[vx, p1] W fun e W' => e = .returned (.bool (stop X)) ∧ (stop X = false → Inv hi (k + 1) W') ∧ (stop X = true → Fin W') ∧ (∀ b T cs, w.heap.size ≤ b → b < hi → Blk W b T cs → Blk W' b T cs)) :
    Calls Try.prog 218 #[u, .int .i64 n, .func (.func 219) #[] #[p1]] w fun e W' => e = .returned (.bool (anyF stop c n c.length [])) ∧ (anyF stop c n c.length [] = false → ∃ hi, Inv hi (cntF c n [] c.length []) W') ∧ (anyF stop c n c.length [] = true → Fin W') := by
  have h4 := eqB_yes hc.out
  have hmf : ∀ (fn : Fn) (first cap : Array Value) (w : World), (Instr.makeFunc fn first cap).run Try.prog w = .ok (.func fn first cap) w := fun _ _ _ _ => rfl
  obtain ⟨aoC, cC, rfl, -⟩ := hu
  obtain ⟨w1, h1⟩ : ∃ x, x = w.alloc (.cells #[.slice aoC c.length cC] 24) := ⟨_, rfl⟩
  obtain ⟨w2, h2⟩ : ∃ x, x = w1.alloc (.cells #[.int .i64 n] 3) := ⟨_, rfl⟩
  obtain ⟨w3, h3⟩ : ∃ x, x = w2.alloc (.cells #[.func (.func 219) #[] #[p1]] 46) := ⟨_, rfl⟩
  have s1 : w1.heap.size = w.heap.size + 1 := by rw [h1]; simp
  have s2 : w2.heap.size = w.heap.size + 1 + 1 := by rw [h2]; simp [s1]
  have s3 : w3.heap.size = w.heap.size + 1 + 1 + 1 := by rw [h3]; simp [s2]
  have e01 : Ext w w1 := by rw [h1]; exact (Ext.refl _).alloc _
  have e12 : Ext w1 w2 := by rw [h2]; exact (Ext.refl _).alloc _
  have e23 : Ext w2 w3 := by rw [h3]; exact (Ext.refl _).alloc _
  have B1 : Blk w1 w.heap.size 24 #[.slice aoC c.length cC] := by rw [h1]; exact Blk.new _ _ _
  have B2 : Blk w2 (w.heap.size + 1) 3 #[.int .i64 n] := by rw [h2, ← s1]; exact Blk.new _ _ _
  have B3 : Blk w3 (w.heap.size + 1 + 1) 46 #[.func (.func 219) #[] #[p1]] := by rw [h3, ← s2]; exact Blk.new _ _ _
  have HIc := Lib.hid hIc
  have HIx := Lib.hid hIx
  have HIs := Lib.hid hIs
  have HTk := Lib.hid hTake
  have HI0 := Lib.hid hI0
  have H123 := Lib.hid (show ((w.alloc (.cells #[.slice aoC c.length cC] 24)).alloc (.cells #[.int .i64 n] 3)).alloc (.cells #[.func (.func 219) #[] #[p1]] 46) = w3 by rw [← h1, ← h2, ← h3])
  clear hIc hIx hIs hTake hI0 h1 h2 h3
  go_enter Try.func218, Try.ntmps218
  go_wp2_with (at_make; refine wp_make_ints slI rfl _ _ rfl _ _ c.length rfl rfl (by omega) (Ext.refl _) ?_; intro w4 hO4 hE4; rw [H123.out] at hO4 hE4; have e34 := hE4; rw [H123.out])
  obtain ⟨w5, h5⟩ : ∃ x, x = w4.alloc (.cells #[.slice (some ⟨w.heap.size + 1 + 1 + 1, 0, none⟩) c.length c.length] 24) := ⟨_, rfl⟩
  obtain ⟨w6, h6⟩ : ∃ x, x = w5.alloc (.cells #[.func (.func 253) #[] #[.pointer (some ⟨w.heap.size, 0, none⟩), .pointer (some ⟨w.heap.size + 1 + 1, 0, none⟩), .pointer (some ⟨w4.heap.size, 0, none⟩), .pointer (some ⟨w.heap.size + 1, 0, none⟩), .pointer (some ⟨w4.heap.size + 1, 0, none⟩)]] 97) := ⟨_, rfl⟩
  rw [← h5, ← h6]
  rw [s3] at hO4
  have s5 : w5.heap.size = w4.heap.size + 1 := by rw [h5]; simp
  have s6 : w6.heap.size = w4.heap.size + 1 + 1 := by rw [h6]; simp [s5]
  have e45 : Ext w4 w5 := by rw [h5]; exact (Ext.refl _).alloc _
  have e56 : Ext w5 w6 := by rw [h6]; exact (Ext.refl _).alloc _
  have B4 := own_blk hO4 (by simp) (by omega)
  have B5 : Blk w5 w4.heap.size 24 #[.slice (some ⟨w.heap.size + 1 + 1 + 1, 0, none⟩) c.length c.length] := by rw [h5]; exact Blk.new _ _ _
  have B6 : Blk w6 (w4.heap.size + 1) 97 #[.func (.func 253) #[] #[.pointer (some ⟨w.heap.size, 0, none⟩), .pointer (some ⟨w.heap.size + 1 + 1, 0, none⟩), .pointer (some ⟨w4.heap.size, 0, none⟩), .pointer (some ⟨w.heap.size + 1, 0, none⟩), .pointer (some ⟨w4.heap.size + 1, 0, none⟩)]] := by rw [h6, ← s5]; exact Blk.new _ _ _
  have hR4 := B4.lt
  have e46 := e45.trans e56
  have e36 := e34.trans e46
  have e06 := (e01.trans (e12.trans e23)).trans e36
  have s4 := e34.size
  clear h5 h6
  have cT := solTryA c n hc hn w.heap.size (w.heap.size + 1 + 1) w4.heap.size (w.heap.size + 1) (w4.heap.size + 1) (w.heap.size + 1 + 1 + 1) aoC cC p1 p2 (cntF c n [] c.length [])
    (fun k W => Inv (w4.heap.size + 2) k W ∧ Blk W w.heap.size 24 #[.slice aoC c.length cC] ∧ Blk W (w.heap.size + 1) 3 #[.int .i64 n] ∧ Blk W (w.heap.size + 1 + 1) 46 #[.func (.func 219) #[] #[p1]] ∧ Blk W w4.heap.size 24 #[.slice (some ⟨w.heap.size + 1 + 1 + 1, 0, none⟩) c.length c.length] ∧ Blk W (w4.heap.size + 1) 97 #[.func (.func 253) #[] #[.pointer (some ⟨w.heap.size, 0, none⟩), .pointer (some ⟨w.heap.size + 1 + 1, 0, none⟩), .pointer (some ⟨w4.heap.size, 0, none⟩), .pointer (some ⟨w.heap.size + 1, 0, none⟩), .pointer (some ⟨w4.heap.size + 1, 0, none⟩)]])
    Fin stop
    (fun k W ⟨i0, b1, b2, b3, b5, b6⟩ => ⟨b1.cell (i := 0) rfl, b3.cell (i := 0) rfl, b5.cell (i := 0) rfl, b2.cell (i := 0) rfl, b6.cell (i := 0) rfl, HIc.out _ _ _ i0⟩)
    (fun k W i v ⟨i0, b1, b2, b3, b5, b6⟩ => ⟨HIs.out _ _ _ _ _ _ (by omega) (by omega) i0, b1.other (by simp; omega) _, b2.other (by simp) _, b3.other (by simp) _, b5.other (by simp; omega) _, b6.other (by simp; omega) _⟩)
    (fun k W W' ⟨i0, b1, b2, b3, b5, b6⟩ hE => ⟨HIx.out _ _ _ _ i0 hE, b1.ext hE, b2.ext hE, b3.ext hE, b5.ext hE, b6.ext hE⟩)
    (fun k W X hkK ⟨i0, b1, b2, b3, b5, b6⟩ hrow hX hX2 => (HTk.out _ _ _ X _ hkK i0 (hrow.ints hX (by omega)) hX hX2).mono fun e W' ⟨r1, r2, r3, r4⟩ => ⟨r1, by obtain ⟨Z, z1, z2, z3⟩ := hrow; exact ⟨Z, z1, z2, r4 _ _ _ (by omega) (by omega) z3⟩, fun hs => ⟨r2 hs, r4 _ _ _ (by omega) (by omega) b1, r4 _ _ _ (by omega) (by omega) b2, r4 _ _ _ (by omega) (by omega) b3, r4 _ _ _ (by omega) (by omega) b5, r4 _ _ _ (by omega) (by omega) b6⟩, r3⟩)
    c.length [] 0 w6 (by simp) (by simp) (by omega)
    ⟨HI0.out _ _ e06 (by omega) (by omega), B1.ext ((e12.trans e23).trans e36), B2.ext (e23.trans e36), B3.ext e36, B5.ext e56, B6⟩ ((row_made B4).ext e46)
  rw [Nat.zero_add] at cT
  refine Calls.mono cT ?_
  rintro e w7 ⟨rfl, -, hF, hG⟩
  have HF := Lib.hid hF
  have HG := Lib.hid hG
  clear hF hG cT
  go_wp2_with fail
  go_ret
  exact ⟨rfl, fun h => ⟨_, (HF.out h).1⟩, HG.out⟩
theorem SolutionsIn_yes (u : Value) (c : List Int) (n : Nat) (w : World) (hu : Ints w u c) (he : eqB c = true) (hn : n ≤ 8) :
    Calls Try.prog 130 #[u, .int .i64 n] w fun e w' => ∃ v', e = .returned (.tuple #[v', .bool true]) ∧ OwnV w w' v' (cntF c n [] c.length []) ∧ Ext w w' := by
  have cE := fun W (hW : Ext w W) => isEquation_any u c W (hu.ext hW)
  rw [he] at cE
  have hin : inB (n : Int) 0 8 = true := inB_t.2 (by omega)
  have cW := fun W => within_any (n : Int) 0 8 W
  rw [hin] at cW
  have hcN : cntF c n [] c.length [] ≤ 4096 := by
    have h1 := cntF_le c n [] c.length []
    have h2 : n ^ c.length ≤ 8 ^ c.length := Nat.pow_le_pow_left hn _
    have h3 : 8 ^ c.length ≤ 8 ^ 4 := Nat.pow_le_pow_right (by omega) (eqB_yes he).2.1
    omega
  have hmf : ∀ (fn : Fn) (first cap : Array Value) (w : World), (Instr.makeFunc fn first cap).run Try.prog w = .ok (.func fn first cap) w := fun _ _ _ _ => rfl
  have HU := Lib.hid hu
  have He := Lib.hid he
  obtain ⟨w1, h1⟩ : ∃ x, x = w.alloc (.cells #[] 24) := ⟨_, rfl⟩
  obtain ⟨w2, h2⟩ : ∃ x, x = w1.alloc (.cells #[.slice (some ⟨w.heap.size, 0, none⟩) 0 0] 88) := ⟨_, rfl⟩
  have s1 : w1.heap.size = w.heap.size + 1 := by rw [h1]; simp
  have s2 : w2.heap.size = w.heap.size + 1 + 1 := by rw [h2]; simp [s1]
  have e01 : Ext w w1 := by rw [h1]; exact (Ext.refl _).alloc _
  have e12 : Ext w1 w2 := by rw [h2]; exact (Ext.refl _).alloc _
  have O1 : OwnV w w1 (.slice (some ⟨w.heap.size, 0, none⟩) 0 0) 0 := by rw [h1]; exact ownV_made (Ext.refl w)
  have B2 : Blk w2 (w.heap.size + 1) 88 #[.slice (some ⟨w.heap.size, 0, none⟩) 0 0] := by rw [h2, ← s1]; exact Blk.new _ _ _
  have O2 := O1.ext e12
  have e02 := e01.trans e12
  have H12 := Lib.hid (show (w.alloc (.cells #[] 24)).alloc (.cells #[.slice (some ⟨w.heap.size, 0, none⟩) 0 0] 88) = w2 by rw [← h1, ← h2])
  have hEq2 := Ext.refl w2
  clear h1 h2 O1 hu he hin
  go_enter Try.func130, Try.ntmps130
  go_wp2_with fail
  rw [H12.out]
  refine (cE _ e02).mono ?_
  rintro e w3 ⟨rfl, hE3⟩
  go_wp2_with (refine (cW _).mono ?_; rintro e w' ⟨rfl, rfl⟩)
  have s3 := hE3.size
  have e03 := e02.trans hE3
  have cS := solFnA u c n He (by omega) (.pointer (some ⟨w.heap.size + 1, 0, none⟩)) (.pointer none) w3 (HU.out.ext e03)
    (fun hi k W => Ext w W ∧ (∃ vo, Blk W (w.heap.size + 1) 88 #[vo] ∧ OwnV w W vo k ∧ (∀ g, vo.ownBlock = some g → g < w3.heap.size ∨ hi ≤ g)) ∧ hi ≤ W.heap.size)
    (fun _ => True) (fun _ => false)
    (fun hi W hE h1 h2 => ⟨e03.trans hE, ⟨_, (B2.ext hE3).ext hE, (O2.ext hE3).ext hE, fun g hg => Or.inl (by have := (O2.blk g hg).2; omega)⟩, h2⟩)
    (fun hi k W ⟨h1, _, _⟩ => HU.out.ext h1)
    (fun hi k W W' ⟨h1, ⟨vo, h2, h3, h4⟩, h5⟩ hE => ⟨h1.trans hE, ⟨vo, h2.ext hE, h3.ext hE, h4⟩, Nat.le_trans h5 hE.size⟩)
    (fun hi k W b i v hb1 hb2 ⟨h1, ⟨vo, h2, h3, h4⟩, h5⟩ => ⟨h1.setCell (by show w.heap.size ≤ b; omega) _, ⟨vo, h2.other (by show w.heap.size + 1 ≠ b; omega) _, h3.set_ne (fun e => by have := h4 b e; omega) _, h4⟩, by simpa using h5⟩)
    (fun hi k W X vx hkK ⟨h1, ⟨vo, h2, h3, h4⟩, h5⟩ hI hX hX2 => (solA1_any vx (castL X) (w.heap.size + 1) w W vo k hI h2 h3 h1 (by omega)).mono fun e W' ⟨r1, vo', r2, r3, r4, r5⟩ =>
      ⟨r1, fun _ => ⟨r4.ext h1 (by omega) (fun g hg => (h3.blk g hg).1), ⟨vo', r2, r3, fun g hg => by
        rcases r5 with r5 | r5
        · exact h4 g (by rw [← r5]; exact hg)
        · have := r5 g hg; omega⟩, Nat.le_trans h5 r4.size⟩, (fun h => by cases h), fun b T cs hb1 hb2 hB => r4.blk hB (by omega) (fun e => by have := h4 b e; omega)⟩)
  have hany : anyF (fun _ => false) c n c.length [] = false := by
    rw [← Bool.not_eq_true, anyF_iff]
    rintro ⟨Y, -, -, -, h⟩; cases h
  rw [hany] at cS
  refine cS.mono ?_
  rintro e w4 ⟨rfl, hF, -⟩
  obtain ⟨hi, h1, ⟨vo, h2, h3, -⟩, -⟩ := hF rfl
  obtain ⟨ao, co, rfl, -⟩ := h3.shape
  have k4 := h2.cell (i := 0) (v := .slice ao (cntF c n [] c.length []) co) rfl
  clear cS hF
  go_wp2_with fail
  exact bodyPost_ret (v := .tuple #[.slice ao (cntF c n [] c.length []) co, .bool true]) (by simp [results, Try.results130, go_sem]) rfl ⟨_, rfl, h3, h1⟩
end Go.Zz

/- MonochromeSolution of the program. -/
namespace Go.Zz
open Go.RowKit Go.Proofs
set_option maxHeartbeats 2000000
set_option maxRecDepth 8000

theorem solTryB (c : List Int) (n : Nat) (hc : Hid (eqB c = true)) (hn : n ≤ 12) (bC bK bX bN bT bR : Nat) (aoC : Option Addr) (cC : Nat) (p1 p2 : Value) (K : Nat)
    (St : Nat → World → Prop) (Fin : World → Prop) (stop : List Nat → Bool)
    (hS : ∀ k w, St k w → w.cell? ⟨bC, 0, none⟩ = some (.slice aoC c.length cC) ∧ w.cell? ⟨bK, 0, none⟩ = some (.func (.func 254) #[] #[p1, p2]) ∧ w.cell? ⟨bX, 0, none⟩ = some (.slice (some ⟨bR, 0, none⟩) c.length c.length) ∧ w.cell? ⟨bN, 0, none⟩ = some (.int .i64 n) ∧ w.cell? ⟨bT, 0, none⟩ = some (.func (.func 253) #[] #[.pointer (some ⟨bC, 0, none⟩), .pointer (some ⟨bK, 0, none⟩), .pointer (some ⟨bX, 0, none⟩), .pointer (some ⟨bN, 0, none⟩), .pointer (some ⟨bT, 0, none⟩)]) ∧ Ints w (.slice aoC c.length cC) c)
    (hset : ∀ k w i v, St k w → St k (w.setCell ⟨bR, i, none⟩ v)) (hext : ∀ k w W, St k w → Ext w W → St k W)
    (hTake : ∀ k w X, k < K → St k w → RowX bR c.length X w → X.length = c.length → (∀ x ∈ X, 1 ≤ x ∧ x ≤ n) → Calls Try.prog 254 #[.slice (some ⟨bR, 0, none⟩) c.length c.length, p1, p2] w fun e w' => e = .returned (.bool (stop X)) ∧ RowX bR c.length X w' ∧ (stop X = false → St (k + 1) w') ∧ (stop X = true → Fin w')) :
    ∀ r X k w, X.length + r = c.length → (∀ x ∈ X, 1 ≤ x ∧ x ≤ n) → k + cntF c n [] r X ≤ K → St k w → RowX bR c.length X w →
    Calls Try.prog 253 #[.int .i64 X.length, .int .i64 (dotL c X), .pointer (some ⟨bC, 0, none⟩), .pointer (some ⟨bK, 0, none⟩), .pointer (some ⟨bX, 0, none⟩), .pointer (some ⟨bN, 0, none⟩), .pointer (some ⟨bT, 0, none⟩)] w fun e w' =>
      e = .returned (.bool (anyF stop c n r X)) ∧ RowX bR c.length X w' ∧ (anyF stop c n r X = false → St (k + cntF c n [] r X) w') ∧ (anyF stop c n r X = true → Fin w') := by
  have h4 := (eqB_yes hc.out).2.1
  intro r
  induction r with
  | zero =>
    intro X k w hr hX hkK hst hrow
    obtain ⟨k1, k2, k3, k4, k5, -⟩ := hS k w hst
    have hq : (((X.length : Nat) : Int) == ((c.length : Nat) : Int)) = true := by rw [beq_iff_eq]; omega
    by_cases hd : dotL c X = 0
    · have hA : Hid (anyF stop c n 0 X = stop X) := Lib.hid (by rw [anyF_leaf, decide_eq_true hd, Bool.true_and])
      have hN : Hid (cntF c n [] 0 X = 1) := Lib.hid (cntF_yes hd)
      have cT := hTake k w X (by rw [hN.out] at hkK; omega) hst hrow (by omega) hX
      rw [hd]
      clear hd hTake
      go_enter Try.func253, Try.ntmps253
      go_wp2_with (go_at_call 254; refine cT.mono ?_; rintro e w1 ⟨rfl, hR1, hF1, hG1⟩)
      go_ret
      exact ⟨ret_bool hA.out.symm, hR1, by rw [hA.out, hN.out]; exact hF1, by rw [hA.out]; exact hG1⟩
    · have hA : Hid (anyF stop c n 0 X = false) := Lib.hid (by rw [anyF_leaf, decide_eq_false hd, Bool.false_and])
      have hN : Hid (cntF c n [] 0 X = 0) := Lib.hid (cntF_no hd)
      have hdq : (dotL c X == 0) = false := by rw [beq_eq_false_iff_ne]; exact hd
      clear hd hTake
      go_enter Try.func253, Try.ntmps253
      go_wp2_with fail
      go_ret
      exact ⟨ret_bool hA.out.symm, hrow, fun _ => by rw [hN.out]; exact hst, fun e => by rw [hA.out] at e; cases e⟩
  | succ r ih =>
    intro X k w hr hX hkK hst hrow
    have HkK := Lib.hid hkK
    clear hkK
    have Hih := Lib.hid ih
    clear ih hTake
    have hlt : X.length < c.length := by omega
    obtain ⟨k1, k2, k3, k4, k5, -⟩ := hS k w hst
    have hq : (((X.length : Nat) : Int) == ((c.length : Nat) : Int)) = false := by rw [beq_eq_false_iff_ne]; omega
    have hX12 : ∀ x ∈ X, x ≤ 12 := fun x hx => by have := hX x hx; omega
    have hdb := dotTo_bd hc.out hX12 X.length (Nat.le_refl _)
    have hD4 : -432 ≤ dotL c X ∧ dotL c X ≤ 432 := by unfold dotL; omega
    have Hsn := Lib.hid (fun y => dotL_snoc c X y)
    obtain ⟨D, hDd⟩ : ∃ D, D = dotL c X := ⟨_, rfl⟩
    rw [← hDd] at hD4 Hsn
    rw [← hDd]
    have hY := cof_bd hc.out X.length
    obtain ⟨Y, hYd⟩ : ∃ Y, Y = nth c X.length := ⟨_, rfl⟩
    rw [← hYd] at hY Hsn
    have HYd := Lib.hid hYd
    clear hDd hYd hdb
    have hixR : ∀ W, (Instr.indexAt 24 (.slice (some ⟨bR, 0, none⟩) c.length c.length) (.int .i64 ((X.length : Nat) : Int))).run Try.prog W = .ok (.pointer (some ⟨bR, X.length, none⟩)) W := fun W => by
      rw [run_indexAt_slice (h := elI), if_pos (by omega), szI]
      simp [Result.andThen, Addr.add_lit]
    have HS := Lib.hid hS
    have HR := Lib.hid hrow
    have HT := Lib.hid hst
    clear hS hrow hst
    go_enter Try.func253, Try.ntmps253
    go_wp2_with fail
    clear k1 k2 k3 k4 k5
    go_loopw [10] (fun sq wr => ∃ q : Nat, 1 ≤ q ∧ q ≤ n + 1 ∧ sq = .int .i64 q ∧ RowX bR c.length X wr ∧ St (k + cntK c n [] r X (q - 1)) wr ∧ Hid (∀ j, j + 1 < q → anyF stop c n r (X ++ [j + 1]) = false)) (fun sq _ => n + 1 - (intOf sq).toNat)
    case atStart => exact ⟨1, by omega, by omega, rfl, HR.out, HT.out, Lib.hid (by omega)⟩
    case round =>
      clear HR HT
      rename World => wr
      obtain ⟨q, hq1, hq2, rfl, hrow, hst, HN⟩ := hrel
      obtain ⟨k1, k2, k3, k4, k5, hI⟩ := HS.out _ _ hst
      by_cases hle : q ≤ n
      · have hleI : (q : Int) ≤ (n : Int) := by omega
        obtain ⟨vz, kz⟩ := hrow.has hlt
        have hfz := hrow.free X.length
        have hrow1 := hrow.set hlt q
        have hst1 := hset _ _ X.length (.int .i64 (q : Int)) hst
        obtain ⟨m1, m2, m3, m4, m5, hI1⟩ := HS.out _ _ hst1
        obtain ⟨w1, hw1⟩ : ∃ w1, w1 = wr.setCell ⟨bR, X.length, none⟩ (.int .i64 (q : Int)) := ⟨_, rfl⟩
        rw [← hw1] at hrow1 hst1 m1 m2 m3 m4 m5 hI1
        obtain ⟨aoI, cI, adr, hvI, -, hadr, hcell⟩ := hI1.op
        simp only [Value.slice.injEq] at hvI
        obtain ⟨rfl, -, rfl⟩ := hvI
        have hixC := ints_index (c := cC) elI szI hadr X.length
        have hckC := fun W (hW : Ext w1 W) => hcell X.length W hlt hW
        rw [← HYd.out] at hckC
        have hmb := mul_bd (a := Y) (y := q) (by omega) (by omega) (by omega)
        have hcm : Y * (q : Int) = (q : Int) * Y := Int.mul_comm _ _
        rw [hcm] at hmb
        have hwm : IntKind.i64.wrap ((q : Int) * Y) = (q : Int) * Y := IntWalk.i64_in _ (by omega)
        have hws : IntKind.i64.wrap (D + (q : Int) * Y) = D + (q : Int) * Y := IntWalk.i64_in _ (by omega)
        have hsn : dotL c (X ++ [q]) = D + (q : Int) * Y := by rw [Hsn.out, hcm]
        have hwl : IntKind.i64.wrap (((X.length : Nat) : Int) + 1) = ((X.length : Nat) : Int) + 1 := IntWalk.i64_in _ (by omega)
        have HKy : Hid (cntK c n [] r X q = cntK c n [] r X (q - 1) + cntF c n [] r (X ++ [q])) := Lib.hid (by
          have := cntK_yes (c := c) (n := n) (cs := []) (r := r) (X := X) (k := q - 1) rfl
          rw [show q - 1 + 1 = q by omega] at this; exact this)
        have HKq : k + cntK c n [] r X (q - 1) + cntF c n [] r (X ++ [q]) ≤ K := by
          have h1 := HkK.out
          rw [cntF_all] at h1
          have h2 := cntK_mono c n [] r X q (n - q)
          rw [show q + (n - q) = n by omega] at h2
          have h3 := HKy.out
          omega
        have cR := fun W (hW : Ext w1 W) => Hih.out (X ++ [q]) _ W (by rw [List.length_append, List.length_singleton]; omega) (fun x hx => by
          rw [List.mem_append, List.mem_singleton] at hx
          rcases hx with hx | rfl
          · exact hX x hx
          · exact ⟨hq1, hle⟩) HKq (hext _ _ _ hst1 hW) (hrow1.ext hW)
        rw [hsn] at cR
        rw [show (((X ++ [q]).length : Nat) : Int) = ((X.length : Nat) : Int) + 1 by rw [List.length_append, List.length_singleton]; omega] at cR
        obtain ⟨S, hSd⟩ : ∃ S, S = k + cntK c n [] r X (q - 1) := ⟨_, rfl⟩
        rw [← hSd] at cR
        have HSd := Lib.hid hSd
        clear hSd hsn hcm hadr hcell hI hI1 hrow hst 
        have Hw1 := Lib.hid hw1
        have hck1 := hckC w1 (Ext.refl _)
        clear hw1 hckC
        cases hAq : anyF stop c n r (X ++ [q])
        · rw [hAq] at cR
          have HAq := Lib.hid hAq
          clear hAq
          go_wp2_with fail
          rw [← Hw1.out]
          go_still_tail 11, (by kernel_rfl)
          change wpList _ _ _ _ _ (World.drew _)
          go_wp2_with (go_at_call 253; refine (cR _ ((Ext.refl w1).drew)).mono ?_; rintro e w2 ⟨rfl, hR2, hF2, hG2⟩; replace hF2 := hF2 (by trivial); clear hG2)
          have hst2 := hF2
          go_roundw
          case rel => exact ⟨q + 1, by omega, by omega, by go_num, hR2.back, by rw [show q + 1 - 1 = q by omega, HKy.out, ← Nat.add_assoc, ← HSd.out]; exact hst2, Lib.hid fun j hj => by by_cases e : j + 1 = q; (rw [e]; exact HAq.out); exact HN.out j (by omega)⟩
          case measure => (simp [intOf]; omega)
        · rw [hAq] at cR
          have HA : Hid (anyF stop c n (r + 1) X = true) := Lib.hid (anyF_hit (k := q - 1) (by omega) (by rw [show q - 1 + 1 = q by omega]; exact hAq))
          clear hAq
          go_wp2_with fail
          rw [← Hw1.out]
          go_still_tail 11, (by kernel_rfl)
          change wpList _ _ _ _ _ (World.drew _)
          go_wp2_with (go_at_call 253; refine (cR _ ((Ext.refl w1).drew)).mono ?_; rintro e w2 ⟨rfl, hR2, hF2, hG2⟩; replace hG2 := hG2 (by trivial); clear hF2)
          go_ret
          exact ⟨ret_bool HA.out.symm, hR2.back, (fun e => by rw [HA.out] at e; cases e), fun _ => hG2⟩
      · have hqn : q = n + 1 := by omega
        have hA : Hid (anyF stop c n (r + 1) X = false) := Lib.hid (anyF_none fun j hj => HN.out j (by omega))
        have hC : Hid (cntF c n [] (r + 1) X = cntK c n [] r X (q - 1)) := Lib.hid (by rw [cntF_all, hqn]; rfl)
        have hleI : ¬ (q : Int) ≤ (n : Int) := by omega
        go_wp2_with fail
        go_ret
        exact ⟨ret_bool hA.out.symm, hrow, fun _ => by rw [hC.out]; exact hst, fun e => by rw [hA.out] at e; cases e⟩
theorem solFnB (u : Value) (c : List Int) (n : Nat) (hc : Hid (eqB c = true)) (hn : n ≤ 12) (p1 p2 : Value) (w : World) (hu : Ints w u c)
    (Inv : Nat → Nat → World → Prop) (Fin : World → Prop) (stop : List Nat → Bool)
    (hI0 : ∀ hi W, Ext w W → w.heap.size ≤ hi → hi ≤ W.heap.size → Inv hi 0 W) (hIc : ∀ hi k W, Inv hi k W → Ints W u c) (hIx : ∀ hi k W W', Inv hi k W → Ext W W' → Inv hi k W')
    (hIs : ∀ hi k W b i v, w.heap.size ≤ b → b < hi → Inv hi k W → Inv hi k (W.setCell ⟨b, i, none⟩ v))
    (hTake : ∀ hi k W X vx, k < cntF c n [] c.length [] → Inv hi k W → Ints W vx (castL X) → X.length = c.length → (∀ x ∈ X, 1 ≤ x ∧ x ≤ n) → Calls Try.prog 254 #[vx, p1, p2] W fun e W' => e = .returned (.bool (stop X)) ∧ (stop X = false → Inv hi (k + 1) W') ∧ (stop X = true → Fin W') ∧ (∀ b T cs, w.heap.size ≤ b → b < hi → Blk W b T cs → Blk W' b T cs)) :
    Calls Try.prog 218 #[u, .int .i64 n, .func (.func 254) #[] #[p1, p2]] w fun e W' => e = .returned (.bool (anyF stop c n c.length [])) ∧ (anyF stop c n c.length [] = false → ∃ hi, Inv hi (cntF c n [] c.length []) W') ∧ (anyF stop c n c.length [] = true → Fin W') := by
  have h4 := eqB_yes hc.out
  have hmf : ∀ (fn : Fn) (first cap : Array Value) (w : World), (Instr.makeFunc fn first cap).run Try.prog w = .ok (.func fn first cap) w := fun _ _ _ _ => rfl
  obtain ⟨aoC, cC, rfl, -⟩ := hu
  obtain ⟨w1, h1⟩ : ∃ x, x = w.alloc (.cells #[.slice aoC c.length cC] 24) := ⟨_, rfl⟩
  obtain ⟨w2, h2⟩ : ∃ x, x = w1.alloc (.cells #[.int .i64 n] 3) := ⟨_, rfl⟩
  obtain ⟨w3, h3⟩ : ∃ x, x = w2.alloc (.cells #[.func (.func 254) #[] #[p1, p2]] 46) := ⟨_, rfl⟩
  have s1 : w1.heap.size = w.heap.size + 1 := by rw [h1]; simp
  have s2 : w2.heap.size = w.heap.size + 1 + 1 := by rw [h2]; simp [s1]
  have s3 : w3.heap.size = w.heap.size + 1 + 1 + 1 := by rw [h3]; simp [s2]
  have e01 : Ext w w1 := by rw [h1]; exact (Ext.refl _).alloc _
  have e12 : Ext w1 w2 := by rw [h2]; exact (Ext.refl _).alloc _
  have e23 : Ext w2 w3 := by rw [h3]; exact (Ext.refl _).alloc _
  have B1 : Blk w1 w.heap.size 24 #[.slice aoC c.length cC] := by rw [h1]; exact Blk.new _ _ _
  have B2 : Blk w2 (w.heap.size + 1) 3 #[.int .i64 n] := by rw [h2, ← s1]; exact Blk.new _ _ _
  have B3 : Blk w3 (w.heap.size + 1 + 1) 46 #[.func (.func 254) #[] #[p1, p2]] := by rw [h3, ← s2]; exact Blk.new _ _ _
  have HIc := Lib.hid hIc
  have HIx := Lib.hid hIx
  have HIs := Lib.hid hIs
  have HTk := Lib.hid hTake
  have HI0 := Lib.hid hI0
  have H123 := Lib.hid (show ((w.alloc (.cells #[.slice aoC c.length cC] 24)).alloc (.cells #[.int .i64 n] 3)).alloc (.cells #[.func (.func 254) #[] #[p1, p2]] 46) = w3 by rw [← h1, ← h2, ← h3])
  clear hIc hIx hIs hTake hI0 h1 h2 h3
  go_enter Try.func218, Try.ntmps218
  go_wp2_with (at_make; refine wp_make_ints slI rfl _ _ rfl _ _ c.length rfl rfl (by omega) (Ext.refl _) ?_; intro w4 hO4 hE4; rw [H123.out] at hO4 hE4; have e34 := hE4; rw [H123.out])
  obtain ⟨w5, h5⟩ : ∃ x, x = w4.alloc (.cells #[.slice (some ⟨w.heap.size + 1 + 1 + 1, 0, none⟩) c.length c.length] 24) := ⟨_, rfl⟩
  obtain ⟨w6, h6⟩ : ∃ x, x = w5.alloc (.cells #[.func (.func 253) #[] #[.pointer (some ⟨w.heap.size, 0, none⟩), .pointer (some ⟨w.heap.size + 1 + 1, 0, none⟩), .pointer (some ⟨w4.heap.size, 0, none⟩), .pointer (some ⟨w.heap.size + 1, 0, none⟩), .pointer (some ⟨w4.heap.size + 1, 0, none⟩)]] 97) := ⟨_, rfl⟩
  rw [← h5, ← h6]
  rw [s3] at hO4
  have s5 : w5.heap.size = w4.heap.size + 1 := by rw [h5]; simp
  have s6 : w6.heap.size = w4.heap.size + 1 + 1 := by rw [h6]; simp [s5]
  have e45 : Ext w4 w5 := by rw [h5]; exact (Ext.refl _).alloc _
  have e56 : Ext w5 w6 := by rw [h6]; exact (Ext.refl _).alloc _
  have B4 := own_blk hO4 (by simp) (by omega)
  have B5 : Blk w5 w4.heap.size 24 #[.slice (some ⟨w.heap.size + 1 + 1 + 1, 0, none⟩) c.length c.length] := by rw [h5]; exact Blk.new _ _ _
  have B6 : Blk w6 (w4.heap.size + 1) 97 #[.func (.func 253) #[] #[.pointer (some ⟨w.heap.size, 0, none⟩), .pointer (some ⟨w.heap.size + 1 + 1, 0, none⟩), .pointer (some ⟨w4.heap.size, 0, none⟩), .pointer (some ⟨w.heap.size + 1, 0, none⟩), .pointer (some ⟨w4.heap.size + 1, 0, none⟩)]] := by rw [h6, ← s5]; exact Blk.new _ _ _
  have hR4 := B4.lt
  have e46 := e45.trans e56
  have e36 := e34.trans e46
  have e06 := (e01.trans (e12.trans e23)).trans e36
  have s4 := e34.size
  clear h5 h6
  have cT := solTryB c n hc hn w.heap.size (w.heap.size + 1 + 1) w4.heap.size (w.heap.size + 1) (w4.heap.size + 1) (w.heap.size + 1 + 1 + 1) aoC cC p1 p2 (cntF c n [] c.length [])
    (fun k W => Inv (w4.heap.size + 2) k W ∧ Blk W w.heap.size 24 #[.slice aoC c.length cC] ∧ Blk W (w.heap.size + 1) 3 #[.int .i64 n] ∧ Blk W (w.heap.size + 1 + 1) 46 #[.func (.func 254) #[] #[p1, p2]] ∧ Blk W w4.heap.size 24 #[.slice (some ⟨w.heap.size + 1 + 1 + 1, 0, none⟩) c.length c.length] ∧ Blk W (w4.heap.size + 1) 97 #[.func (.func 253) #[] #[.pointer (some ⟨w.heap.size, 0, none⟩), .pointer (some ⟨w.heap.size + 1 + 1, 0, none⟩), .pointer (some ⟨w4.heap.size, 0, none⟩), .pointer (some ⟨w.heap.size + 1, 0, none⟩), .pointer (some ⟨w4.heap.size + 1, 0, none⟩)]])
    Fin stop
    (fun k W ⟨i0, b1, b2, b3, b5, b6⟩ => ⟨b1.cell (i := 0) rfl, b3.cell (i := 0) rfl, b5.cell (i := 0) rfl, b2.cell (i := 0) rfl, b6.cell (i := 0) rfl, HIc.out _ _ _ i0⟩)
    (fun k W i v ⟨i0, b1, b2, b3, b5, b6⟩ => ⟨HIs.out _ _ _ _ _ _ (by omega) (by omega) i0, b1.other (by simp; omega) _, b2.other (by simp) _, b3.other (by simp) _, b5.other (by simp; omega) _, b6.other (by simp; omega) _⟩)
    (fun k W W' ⟨i0, b1, b2, b3, b5, b6⟩ hE => ⟨HIx.out _ _ _ _ i0 hE, b1.ext hE, b2.ext hE, b3.ext hE, b5.ext hE, b6.ext hE⟩)
    (fun k W X hkK ⟨i0, b1, b2, b3, b5, b6⟩ hrow hX hX2 => (HTk.out _ _ _ X _ hkK i0 (hrow.ints hX (by omega)) hX hX2).mono fun e W' ⟨r1, r2, r3, r4⟩ => ⟨r1, by obtain ⟨Z, z1, z2, z3⟩ := hrow; exact ⟨Z, z1, z2, r4 _ _ _ (by omega) (by omega) z3⟩, fun hs => ⟨r2 hs, r4 _ _ _ (by omega) (by omega) b1, r4 _ _ _ (by omega) (by omega) b2, r4 _ _ _ (by omega) (by omega) b3, r4 _ _ _ (by omega) (by omega) b5, r4 _ _ _ (by omega) (by omega) b6⟩, r3⟩)
    c.length [] 0 w6 (by simp) (by simp) (by omega)
    ⟨HI0.out _ _ e06 (by omega) (by omega), B1.ext ((e12.trans e23).trans e36), B2.ext (e23.trans e36), B3.ext e36, B5.ext e56, B6⟩ ((row_made B4).ext e46)
  rw [Nat.zero_add] at cT
  refine Calls.mono cT ?_
  rintro e w7 ⟨rfl, -, hF, hG⟩
  have HF := Lib.hid hF
  have HG := Lib.hid hG
  clear hF hG cT
  go_wp2_with fail
  go_ret
  exact ⟨rfl, fun h => ⟨_, (HF.out h).1⟩, HG.out⟩
theorem solB1_any (vx vs : Value) (X : List Nat) (cs : List Int) (bS bO : Nat) (w : World) (ao0 : Option Addr) (n0 c0 : Nat) (hI : Ints w vx (castL X)) (hC : Ints w vs cs) (hS : ∀ W, Ext w W → W.cell? ⟨bS, 0, none⟩ = some vs) (hB : Blk w bO 24 #[.slice ao0 n0 c0]) (hX : ∀ x ∈ X, 1 ≤ x ∧ x ≤ cs.length) (h12 : cs.length ≤ 12) (hXl : X.length ≤ 4) :
    Calls Try.prog 254 #[vx, .pointer (some ⟨bS, 0, none⟩), .pointer (some ⟨bO, 0, none⟩)] w fun e w' => e = .returned (.bool (sameB cs X)) ∧ (sameB cs X = false → Ext w w') ∧ (sameB cs X = true → Fr bO none w w' ∧ ∃ ao n c, Blk w' bO 24 #[.slice ao n c]) := by
  have HI := Lib.hid (fun W (hW : Ext w W) => hI.ext hW)
  obtain ⟨aoX, cX, adrX, rfl, hadrX, hcellX⟩ := hI.nats
  have hixX := ints_index (c := cX) elI szI hadrX
  obtain ⟨aoS, cS, adrS, rfl, -, hadrS, hcellS⟩ := hC.op
  have hixS := ints_index (c := cS) elI szI hadrS
  have HX := Lib.hid hcellX
  have HSc := Lib.hid hcellS
  have HB := Lib.hid hB
  have HS := Lib.hid hS
  have hE := Ext.refl w
  clear hadrX hadrS hcellX hcellS hI hC hB hS
  go_enter Try.func254, Try.ntmps254
  go_wp2_with fail
  go_loopw [9] (fun si wr => ∃ k : Nat, k ≤ X.length ∧ si = .int .i64 k ∧ Ext w wr ∧ Hid (sameTo cs X k)) (fun si _ => X.length - (intOf si).toNat)
  case atStart => exact ⟨0, by omega, rfl, hE, Lib.hid fun j hj => absurd hj (by omega)⟩
  case round =>
    clear hE
    rename World => wr
    obtain ⟨k, hk, rfl, hE, HT⟩ := hrel
    by_cases hlt : k < X.length
    · have hy := hX _ (nthN_mem hlt)
      have hz := hX _ (nthN_mem (L := X) (k := 0) (by omega))
      have h0l : 0 < X.length := by omega
      have hck := HX.out k wr hlt hE
      have hckU := fun U => HX.out k (Lat wr U) hlt (hE.trans (lat_ext wr U))
      have hc0U := fun U => HX.out 0 (Lat wr U) h0l (hE.trans (lat_ext wr U))
      have hix0 : ∀ W, (Instr.indexAt 24 (.slice aoX X.length cX) (.int .i64 0)).run Try.prog W = .ok (.pointer (some (adrX 0))) W := fun W => hixX 0 W (by omega)
      obtain ⟨p, hp⟩ : ∃ p, nthN X k = p + 1 := ⟨nthN X k - 1, by omega⟩
      obtain ⟨z, hzz⟩ : ∃ z, nthN X 0 = z + 1 := ⟨nthN X 0 - 1, by omega⟩
      have hpl : p < cs.length := by omega
      have hzl : z < cs.length := by omega
      have hcpU := fun U => HSc.out p (Lat wr U) hpl (hE.trans (lat_ext wr U))
      have hczU := fun U => HSc.out z (Lat wr U) hzl (hE.trans (lat_ext wr U))
      have hsU := fun U => HS.out (Lat wr U) (hE.trans (lat_ext wr U))
      rw [hp] at hck hckU
      rw [hzz] at hc0U
      have hwp : IntKind.i64.wrap (((p + 1 : Nat) : Int) - 1) = (p : Int) := by rw [show (((p + 1 : Nat) : Int) - 1) = (p : Int) by omega]; exact IntWalk.i64_in _ (by omega)
      have hwz : IntKind.i64.wrap (((z + 1 : Nat) : Int) - 1) = (z : Int) := by rw [show (((z + 1 : Nat) : Int) - 1) = (z : Int) by omega]; exact IntWalk.i64_in _ (by omega)
      have Hst : Hid (∀ j, j < k + 1 → nth cs p = nth cs z → sameTo cs X (k + 1)) := Lib.hid fun _ _ e j hj => by
        by_cases e2 : j = k
        · subst e2; rw [hp, hzz]; exact e
        · exact HT.out j (by omega)
      have Hno : Hid (nth cs p ≠ nth cs z → sameB cs X = false) := Lib.hid fun e => sameB_no hlt (by rw [hp, hzz]; exact e)
      obtain ⟨P, hPd⟩ : ∃ P, P = nth cs p := ⟨_, rfl⟩
      obtain ⟨Z, hZd⟩ : ∃ Z, Z = nth cs z := ⟨_, rfl⟩
      rw [← hPd] at hcpU Hst Hno
      rw [← hZd] at hczU Hst Hno
      have hixp := hixS p
      have hixz := hixS z
      have hE1 := hE
      clear hE hPd hZd hp hzz hy hz hixS
      have hE := Ext.refl wr
      by_cases e : P = Z
      · have Hn : Hid (sameTo cs X (k + 1)) := Lib.hid (Hst.out k (by omega) e)
        have hq : (P != Z) = false := by rw [e]; simp
        clear e
        go_wp2_with fail
        (refine wp_region_lat (wr) (by kernel_rfl) (by kernel_rfl) hE ?_); (repeat (go_big_quiet_step (first | (fail "no call")))); (refine wpQuiet_nil ?_); (intro W hE'); (replace hE := lat_of hE'); (clear hE')
        go_wp2_with fail
        go_roundw
        case rel => exact ⟨k + 1, by omega, by go_num, hE1.trans hE, Hn⟩
        case measure => (simp [intOf]; omega)
      · have Hn : Hid (sameB cs X = false) := Lib.hid (Hno.out e)
        have hq : (P != Z) = true := by rw [bne_iff_ne]; exact e
        clear e
        go_wp2_with fail
        (refine wp_region_lat (wr) (by kernel_rfl) (by kernel_rfl) hE ?_); (repeat (go_big_quiet_step (first | (fail "no call")))); (refine wpQuiet_nil ?_); (intro W hE'); (replace hE := lat_of hE'); (clear hE')
        go_wp2_with fail
        go_ret
        exact ⟨ret_bool Hn.out.symm, fun _ => hE1.trans hE, fun h => by rw [Hn.out] at h; cases h⟩
    · have hkl : k = X.length := by omega
      have Hs : Hid (sameB cs X = true) := Lib.hid (sameB_yes (by rw [← hkl]; exact HT.out))
      have cC := copyInts_any _ _ wr (HI.out wr hE)
      clear hkl
      go_wp2_with (go_at_call 145; refine cC.mono ?_; rintro e w1 ⟨v1, rfl, hO1, hE1⟩; have hB1 := HB.out.ext (hE.trans hE1); have hc1 := hB1.cell (i := 0) (v := .slice ao0 n0 c0) rfl; have hf1 := hB1.free 0; obtain ⟨a1, k1, rfl, -⟩ := hO1.shape)
      have hB2 : Blk (w1.setCell ⟨bO, 0, none⟩ (.slice a1 (castL X).length k1)) bO 24 #[.slice a1 (castL X).length k1] := hB1.set 0 _
      have hF := ((hE.trans hE1).fr bO none).trans (Nw.refl _ _) (fr_set bO none w1 0 (.slice a1 (castL X).length k1))
      go_wp2_with fail
      go_ret
      exact ⟨ret_bool Hs.out.symm, fun h => (by rw [Hs.out] at h; cases h), fun _ => ⟨hF, _, _, _, hB2⟩⟩
theorem MonochromeSolution_yes (u vs : Value) (c cs : List Int) (w : World) (hu : Ints w u c) (hv : Ints w vs cs) (he : eqB c = true) (h1 : 1 ≤ cs.length) (h12 : cs.length ≤ 12) :
    Calls Try.prog 222 #[u, vs] w fun e w' => ∃ v', e = .returned (.tuple #[v', .bool (monoB c cs)]) ∧ Ext w w' := by
  have cE := fun W (hW : Ext w W) => isEquation_any u c W (hu.ext hW)
  rw [he] at cE
  have hin : inB (cs.length : Int) 1 12 = true := inB_t.2 (by omega)
  have cW := fun W => within_any (cs.length : Int) 1 12 W
  rw [hin] at cW
  have hmf : ∀ (fn : Fn) (first cap : Array Value) (w : World), (Instr.makeFunc fn first cap).run Try.prog w = .ok (.func fn first cap) w := fun _ _ _ _ => rfl
  have HU := Lib.hid hu
  have HV := Lib.hid hv
  have He := Lib.hid he
  obtain ⟨aoS, cS, rfl, -⟩ := hv
  obtain ⟨w0, h0⟩ : ∃ x, x = w.alloc (.cells #[.slice aoS cs.length cS] 24) := ⟨_, rfl⟩
  obtain ⟨w1, h1'⟩ : ∃ x, x = w0.alloc (.cells #[] 3) := ⟨_, rfl⟩
  obtain ⟨w2, h2⟩ : ∃ x, x = w1.alloc (.cells #[.slice (some ⟨w.heap.size + 1, 0, none⟩) 0 0] 24) := ⟨_, rfl⟩
  have s0 : w0.heap.size = w.heap.size + 1 := by rw [h0]; simp
  have s1 : w1.heap.size = w.heap.size + 1 + 1 := by rw [h1']; simp [s0]
  have s2 : w2.heap.size = w.heap.size + 1 + 1 + 1 := by rw [h2]; simp [s1]
  have e00 : Ext w w0 := by rw [h0]; exact (Ext.refl _).alloc _
  have e01 : Ext w0 w1 := by rw [h1']; exact (Ext.refl _).alloc _
  have e12 : Ext w1 w2 := by rw [h2]; exact (Ext.refl _).alloc _
  have B0 : Blk w0 w.heap.size 24 #[.slice aoS cs.length cS] := by rw [h0]; exact Blk.new _ _ _
  have B2 : Blk w2 (w.heap.size + 1 + 1) 24 #[.slice (some ⟨w.heap.size + 1, 0, none⟩) 0 0] := by rw [h2, ← s1]; exact Blk.new _ _ _
  have e02 := e01.trans e12
  have H12 := Lib.hid (show ((w.alloc (.cells #[.slice aoS cs.length cS] 24)).alloc (.cells #[] 3)).alloc (.cells #[.slice (some ⟨w.heap.size + 1, 0, none⟩) 0 0] 24) = w2 by rw [← h0, ← h1', ← h2])
  have kS : ∀ W, Ext w0 W → W.cell? ⟨w.heap.size, 0, none⟩ = some (.slice aoS cs.length cS) := fun W hW => (B0.ext hW).cell (i := 0) rfl
  clear h0 h1' h2 hu he hin
  go_enter Try.func222, Try.ntmps222
  go_wp2_with fail
  rw [H12.out]
  refine (cE _ (e00.trans e02)).mono ?_
  rintro e w3 ⟨rfl, hE3⟩
  have e03 := e02.trans hE3
  have ks3 := kS _ e03
  go_wp2_with (refine (cW _).mono ?_; rintro e w' ⟨rfl, rfl⟩)
  have s3 := hE3.size
  have cF := solFnB u c cs.length He h12 (.pointer (some ⟨w.heap.size, 0, none⟩)) (.pointer (some ⟨w.heap.size + 1 + 1, 0, none⟩)) w3 (HU.out.ext (e00.trans e03))
    (fun hi k W => Ext w0 W ∧ (∃ ao n c, Blk W (w.heap.size + 1 + 1) 24 #[.slice ao n c]) ∧ hi ≤ W.heap.size)
    (fun W => Ext w0 W ∧ ∃ ao n c, Blk W (w.heap.size + 1 + 1) 24 #[.slice ao n c]) (sameB cs)
    (fun hi W hE h1 h2 => ⟨e03.trans hE, ⟨_, _, _, (B2.ext hE3).ext hE⟩, h2⟩)
    (fun hi k W ⟨h1, _, _⟩ => HU.out.ext (e00.trans h1))
    (fun hi k W W' ⟨h1, ⟨ao, n, c, h2⟩, h5⟩ hE => ⟨h1.trans hE, ⟨ao, n, c, h2.ext hE⟩, Nat.le_trans h5 hE.size⟩)
    (fun hi k W b i v hb1 hb2 ⟨h1, ⟨ao, n, c, h2⟩, h5⟩ => ⟨h1.setCell (by show w0.heap.size ≤ b; omega) _, ⟨ao, n, c, h2.other (by show w.heap.size + 1 + 1 ≠ b; omega) _⟩, by simpa using h5⟩)
    (fun hi k W X vx hkK ⟨h1, ⟨ao, n, c, h2⟩, h5⟩ hI hX hX2 => (solB1_any vx _ X cs w.heap.size (w.heap.size + 1 + 1) W ao n c hI (HV.out.ext (e00.trans h1)) (fun W' hW' => kS W' (h1.trans hW')) h2 hX2 h12 (by rw [hX]; exact (eqB_yes He.out).2.1)).mono fun e W' ⟨r1, r2, r3⟩ =>
      ⟨r1, fun h => ⟨h1.trans (r2 h), ⟨ao, n, c, h2.ext (r2 h)⟩, Nat.le_trans h5 (r2 h).size⟩, fun h => ⟨(r3 h).1.ext h1 (by omega) (fun g hg => by cases hg), (r3 h).2⟩, fun b T cs' hb1 hb2 hB => by
        cases hs : sameB cs X
        · exact hB.ext (r2 hs)
        · exact (r3 hs).1.blk hB (by omega) (by simp)⟩)
  have Hm : Hid (anyF (sameB cs) c cs.length c.length [] = monoB c cs) := Lib.hid rfl
  rw [Hm.out] at cF
  obtain ⟨R, hR⟩ : ∃ R, R = monoB c cs := ⟨_, rfl⟩
  rw [← hR] at cF
  refine cF.mono ?_
  rintro e w4 ⟨rfl, hF, hG⟩
  have hfin : Ext w0 w4 ∧ ∃ ao n c, Blk w4 (w.heap.size + 1 + 1) 24 #[.slice ao n c] := by
    cases R
    · obtain ⟨hi, h1, h2, -⟩ := hF rfl; exact ⟨h1, h2⟩
    · exact hG rfl
  obtain ⟨h1, ao, n, k, h2⟩ := hfin
  have k4 := h2.cell (i := 0) (v := .slice ao n k) rfl
  have k4U := fun U => cell_in k4 _ (lat_ext w4 U)
  have hE := Ext.refl w4
  clear cF hF hG
  go_wp2_with fail
  exact bodyPost_ret (v := .tuple #[.slice ao n k, .bool (monoB c cs)]) (by simp [results, Try.results222, go_sem]) rfl ⟨.slice ao n k, rfl, e00.trans h1⟩
end Go.Zz
