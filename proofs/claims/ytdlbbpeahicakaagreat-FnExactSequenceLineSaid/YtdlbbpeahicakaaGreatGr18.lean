/- Factorizations, by their lengths: FactorizationsOf of the reference. -/
import Derived.Test.YtdlbbpeahicakaaGreatGr17
import Derived.Test.YtdlbbpeahicakaaGreatGr5
import Derived.Test.YtdlbbpeahicakaaGreatGr4
import Derived.Deep.RegionHeld3
import Derived.Test.YtdlbbpeahicakaaGreatGr6
import Derived.Test.YtdlbbpeahicakaaGreatGr1
import Derived.Test.YtdlbbpeahicakaaGreatGr7
import Derived.Test.YtdlbbpeahicakaaGreatGr9
import Derived.Test.YtdlbbpeahicakaaGreatGr12
import Derived.Test.YtdlbbpeahicakaaGreatGr11
import Derived.Laws.EntriesVeiled
namespace Go.Zz
open Go.RowKit Go.Proofs
set_option maxHeartbeats 1000000
set_option maxRecDepth 8000

def facB (l R : List Int) : Bool := atB l && (zsB l R && decide (R.length ≤ 10))
def facV (l R : List Int) : List Nat := if facB l R then facF (atS l) (R.length + 1) 0 R else []
theorem facV_no {l R : List Int} (h : facB l R = false) : facV l R = [] := by unfold facV; rw [h]; rfl
theorem sFactorizationsOf_any (v u : Value) (l R : List Int) (w : World) (h : Ints w v l) (hu : Ints w u R) :
    Calls Tryz.prog 145 #[.agg #[v], u] w fun e w' => (∃ v', e = .returned (.tuple #[v', .bool (facB l R)]) ∧ OwnF w w' v' (facV l R)) ∧ Ext w w' := by
  obtain ⟨wb, hwb⟩ : ∃ wb, wb = w.alloc (.cells #[v] 27) := ⟨_, rfl⟩
  have hE0 := (Ext.refl w).alloc (.cells #[v] 27)
  have hb := box_cell w v 27
  rw [← hwb] at hE0 hb
  have hg : ∀ W, Ext wb W → Ints W v l := fun W hW => h.ext (hE0.trans hW)
  have hE := Ext.refl wb
  have Hsz : Hid (w.heap.size + 1 = wb.heap.size) := Lib.hid (by rw [hwb]; simp [go_sem])
  have Hwb := Lib.hid hwb
  clear hwb h
  have hu2 : ∀ W, Ext wb W → Ints W u R := fun W hW => hu.ext (hE0.trans hW)
  obtain ⟨aoU, cU, adrU, rfl, hlU, hadrU, hcU⟩ := hu.op
  have hb1 := hb _ hE
  clear hadrU hcU hu
  have cZ := fun W (hW : Ext wb W) => sIsZeroSum_any v _ l R W (hg W hW) (hu2 W hW)
  cases hA : atB l
  · have cA := sAtomsOf_no v l wb (hg _ hE) hA
    have hf : facB l R = false := by unfold facB; rw [hA]; rfl
    rw [hf, facV_no hf]
    clear hA hf cZ
    go_enter Tryz.func145, Tryz.ntmps145
    go_wp2_with fail
    rw [← Hwb.out]
    go_wp2_with (go_at_call 191; refine cA.mono ?_; rintro e w1 ⟨v1, rfl, hE1⟩)
    exact bodyPost_ret (v := .tuple #[.slice (some ⟨w1.heap.size, 0, none⟩) 0 0, .bool false]) (by simp [results, Tryz.results145, go_sem]) rfl ⟨⟨_, rfl, ownF_made (hE0.trans hE1)⟩, (hE0.trans hE1).alloc _⟩
  · have cA := sAtomsOf_yes v l wb (hg _ hE) hA
    cases hZ : zsB l R
    · rw [hZ] at cZ
      have hf : facB l R = false := by unfold facB; rw [hA, hZ]; rfl
      rw [hf, facV_no hf]
      clear hA hf hZ
      go_enter Tryz.func145, Tryz.ntmps145
      go_wp2_with fail
      rw [← Hwb.out]
      go_wp2_with (first | (go_at_call 191; refine cA.mono ?_; rintro e w1 ⟨v1, rfl, -, hE1⟩; have hb2 := hb _ hE1) | (go_at_call 58; refine (cZ _ hE1).mono ?_; rintro e w2 ⟨rfl, hE2⟩))
      have hE3 := hE0.trans (hE1.trans hE2)
      exact bodyPost_ret (v := .tuple #[.slice (some ⟨w2.heap.size, 0, none⟩) 0 0, .bool false]) (by simp [results, Tryz.results145, go_sem]) rfl ⟨⟨_, rfl, ownF_made hE3⟩, hE3.alloc _⟩
    · rw [hZ] at cZ
      by_cases hl : R.length ≤ 10
      · have hf : facB l R = true := by unfold facB; rw [hA, hZ, decide_eq_true hl]; rfl
        obtain ⟨hgr, h7⟩ : isGrp l = true ∧ ord l ≤ 7 := by unfold atB at hA; simpa using hA
        have hlI : ¬ (10 : Int) < (R.length : Int) := by omega
        have h48 : (atS l).length ≤ 48 := by rw [atS_len]; exact atL_le hgr h7
        have h1a : ∀ a ∈ atS l, 1 ≤ a.length := fun a ha => (atL_good hgr h7 (atS_mem ha)).1
        have hBd := Lib.hid (fun f i0 (R : List Int) (hR : R.length ≤ 10) => fac_bd hgr h7 f i0 hR)
        have hV : facV l R = facF (atS l) (R.length + 1) 0 R := by unfold facV; rw [hf]; rfl
        rw [hf, hV]
        have hl10 := hl
        obtain ⟨A, hAd⟩ : ∃ A, A = atS l := ⟨_, rfl⟩
        rw [← hAd] at h48 h1a hBd cA ⊢
        have cF := fun va w1 (hO : OwnC wb w1 va A) vR W (hW : Ext w1 W) (hI : Ints W vR R) => sFactor_any va A wb w1 (Lib.hid hO) h48 h1a hBd (R.length + 1) 0 R vR W hW hI (by omega) hl10 (by omega)
        clear hA hf hZ hV hgr h7 hAd hl hBd
        go_enter Tryz.func145, Tryz.ntmps145
        go_wp2_with fail
        rw [← Hwb.out]
        go_wp2_with (first | (go_at_call 191; refine cA.mono ?_; rintro e w1 ⟨v1, rfl, hO1, hE1⟩; have hb2 := hb _ hE1) | (go_at_call 58; refine (cZ _ hE1).mono ?_; rintro e w2 ⟨rfl, hE2⟩; have hE12 := hE1.trans hE2) | (go_at_call 192; refine (cF _ _ hO1 _ _ hE2 (hu2 _ hE12)).mono ?_; rintro e w3 ⟨v3, rfl, hO3, hE3⟩; obtain ⟨ao3, c3, rfl, -⟩ := hO3.shape))
        have hE4 := hE0.trans hE12
        exact bodyPost_ret (v := .tuple #[_, .bool true]) (by simp [results, Tryz.results145, go_sem]) rfl ⟨⟨_, rfl, hO3.mono hE4⟩, hE4.trans hE3⟩
      · have hf : facB l R = false := by unfold facB; rw [decide_eq_false hl, Bool.and_false, Bool.and_false]
        rw [hf, facV_no hf]
        have hlI : (10 : Int) < (R.length : Int) := by omega
        clear hA hf hZ hl
        go_enter Tryz.func145, Tryz.ntmps145
        go_wp2_with fail
        rw [← Hwb.out]
        go_wp2_with (first | (go_at_call 191; refine cA.mono ?_; rintro e w1 ⟨v1, rfl, -, hE1⟩; have hb2 := hb _ hE1) | (go_at_call 58; refine (cZ _ hE1).mono ?_; rintro e w2 ⟨rfl, hE2⟩))
        have hE3 := hE0.trans (hE1.trans hE2)
        exact bodyPost_ret (v := .tuple #[.slice (some ⟨w2.heap.size, 0, none⟩) 0 0, .bool false]) (by simp [results, Tryz.results145, go_sem]) rfl ⟨⟨_, rfl, ownF_made hE3⟩, hE3.alloc _⟩
end Go.Zz

/- Boundaries and least expansions. -/
namespace Go.Zz
open Go.RowKit Go.Proofs
set_option maxHeartbeats 400000

theorem gcd_step (a b : Nat) : Nat.gcd b (a % b) = Nat.gcd a b := by rw [Nat.gcd_comm b, ← Nat.gcd_rec, Nat.gcd_comm]
theorem modc (a b : Nat) : ((a % b : Nat) : Int) = (a : Int) % (b : Int) := Int.natCast_emod a b

/-- joined pairs with one element in a set, the first in a list -/
def bdTo (l : List Int) (a x : Nat) (L : List Nat) : Nat := L.foldl (fun n y => n + cnt (andN (shiftF l a y) x)) 0
theorem bdTo_snoc (l : List Int) (a x : Nat) (L : List Nat) (y : Nat) : bdTo l a x (L ++ [y]) = bdTo l a x L + cnt (andN (shiftF l a y) x) := by unfold bdTo; rw [List.foldl_append]; rfl
theorem bdFold (l : List Int) (a x : Nat) : ∀ (L : List Nat) (s : Nat), L.foldl (fun n y => n + cnt (andN (shiftF l a y) x)) s ≤ s + 24 * L.length
  | [], s => by simp
  | y :: L, s => by
    rw [List.foldl_cons, List.length_cons]
    have := bdFold l a x L (s + cnt (andN (shiftF l a y) x))
    have := cnt_le (andN (shiftF l a y) x)
    omega
theorem bdTo_le (l : List Int) (a x : Nat) (L : List Nat) : bdTo l a x L ≤ 24 * L.length := by have := bdFold l a x L 0; unfold bdTo; omega
def bdN (l : List Int) (a x : Nat) : Nat := bdTo l a x (elems x)
theorem bdN_le (l : List Int) (a x : Nat) : bdN l a x ≤ 576 := by have := bdTo_le l a x (elems x); have := elems_len x; unfold bdN; omega
theorem andN_cast {a b : Nat} (ha : a < 2 ^ 24) : (a : Int) - ((a &&& b : Nat) : Int) = ((andN a b : Nat) : Int) := by
  have := andN_sub 24 a b ha; omega
end Go.Zz

/- Orders: primes, exponents. -/
namespace Go.Zz
open Go.RowKit Go.Proofs
set_option maxHeartbeats 400000
set_option maxRecDepth 4000

def primeB (n : Nat) : Bool := decide (2 ≤ n ∧ ∀ d, d < n → 2 ≤ d → n % d ≠ 0)
theorem primeB_no {n d : Nat} (h : n % d = 0) (h2 : 2 ≤ d) (hd : d < n) : primeB n = false :=
  decide_eq_false fun hh => hh.2 d hd h2 h
theorem primeB_end {n : Nat} (h : ∀ d, d < n → 2 ≤ d → n % d ≠ 0) : primeB n = decide (2 ≤ n) := by
  unfold primeB
  by_cases hn : 2 ≤ n
  · rw [decide_eq_true hn]; exact decide_eq_true ⟨hn, h⟩
  · rw [decide_eq_false hn]; exact decide_eq_false fun hh => hn hh.1
/-- the exponent of the first parts -/
def expK (l : List Int) : Nat → Nat
  | 0 => 1
  | k + 1 => expK l k / Nat.gcd (expK l k) (nth l k).toNat * (nth l k).toNat
def expN (l : List Int) : Nat := expK l l.length
theorem expK_bd {l : List Int} (h : isGrp l = true) : ∀ k, k ≤ l.length → 1 ≤ expK l k ∧ expK l k ≤ 24 ^ k := by
  intro k
  induction k with
  | zero => intro _; exact ⟨Nat.le_refl _, Nat.le_refl _⟩
  | succ k ih =>
    intro hk
    obtain ⟨h1, h2⟩ := ih (by omega)
    have hn := isGrp_nth h (show k < l.length by omega)
    have ho : 2 ≤ (nth l k).toNat ∧ (nth l k).toNat ≤ 24 := by omega
    show 1 ≤ expK l k / Nat.gcd (expK l k) (nth l k).toNat * (nth l k).toNat ∧ _
    have hg0 : 0 < Nat.gcd (expK l k) (nth l k).toNat := Nat.gcd_pos_of_pos_right _ (by omega)
    have hgl : Nat.gcd (expK l k) (nth l k).toNat ≤ expK l k := Nat.gcd_le_left _ (by omega)
    have hq : 0 < expK l k / Nat.gcd (expK l k) (nth l k).toNat := Nat.div_pos hgl hg0
    have hq2 := Nat.div_le_self (expK l k) (Nat.gcd (expK l k) (nth l k).toNat)
    refine ⟨Nat.mul_pos hq (by omega), ?_⟩
    rw [Nat.pow_succ]
    exact Nat.mul_le_mul (Nat.le_trans hq2 h2) ho.2
theorem expK_le {l : List Int} (h : isGrp l = true) {k : Nat} (hk : k ≤ l.length) : 1 ≤ expK l k ∧ expK l k ≤ 13824 := by
  obtain ⟨h1, h2⟩ := expK_bd h k hk
  have h3 := isGrp_len h
  exact ⟨h1, Nat.le_trans h2 (Nat.le_trans (Nat.pow_le_pow_right (by decide) (Nat.le_trans hk h3)) (by decide))⟩
/-- the first multiple of e that o divides -/
theorem mult_iff {e o j : Nat} (he : 0 < e) : j * e % o = 0 ↔ o / Nat.gcd e o ∣ j := by
  have hg : 0 < Nat.gcd e o := Nat.gcd_pos_of_pos_left _ he
  rw [← Nat.dvd_iff_mod_eq_zero]
  constructor
  · intro h
    have h1 : Nat.Coprime (o / Nat.gcd e o) (e / Nat.gcd e o) := (Nat.coprime_div_gcd_div_gcd hg).symm
    refine h1.dvd_of_dvd_mul_right ?_
    refine Nat.dvd_of_mul_dvd_mul_right hg ?_
    rw [Nat.div_mul_cancel (Nat.gcd_dvd_right e o), Nat.mul_assoc, Nat.div_mul_cancel (Nat.gcd_dvd_left e o)]
    exact h
  · rintro ⟨q, rfl⟩
    refine ⟨q * (e / Nat.gcd e o), ?_⟩
    have e1 := Nat.div_mul_cancel (Nat.gcd_dvd_left e o)
    have e2 := Nat.div_mul_cancel (Nat.gcd_dvd_right e o)
    conv => lhs; rhs; rw [← e1]
    conv => rhs; lhs; rw [← e2]
    simp only [Nat.mul_comm, Nat.mul_left_comm]
theorem mult_val {e o : Nat} : o / Nat.gcd e o * e = e / Nat.gcd e o * o := by
  have e1 := Nat.div_mul_cancel (Nat.gcd_dvd_left e o)
  have e2 := Nat.div_mul_cancel (Nat.gcd_dvd_right e o)
  conv => lhs; rhs; rw [← e1]
  conv => rhs; rhs; rw [← e2]
  simp only [Nat.mul_comm, Nat.mul_left_comm]
--%call sOrderOfN 39 ext sOrderOf_grp _ _ _ ({0}) ({1})
theorem sOrderOf_grp (v : Value) (l : List Int) (w : World) (h : Ints w v l) (Hgr : Hid (isGrp l = true)) :
    Calls Tryz.prog 39 #[.agg #[v]] w fun e w' => e = .returned (.int .i64 (ord l : Int)) ∧ Ext w w' := by
  rw [← ordF_t Hgr.out]; exact sOrderOf_any v l w h
end Go.Zz

/- Regions that draw their order, walked by hand: an operation is taken first, be its guard on or off. -/
namespace Go.Zz
open Go

theorem takeOn {P : Program} {ops : Array Oper} {Q : Exit → Act → World → Prop} {md : Region.Mode} {S : World → Prop} {i : Nat} {oi : Oper} {v : Value} {fuel : Nat} {listed : Array Bool} {a : Act} {w : World}
    (hr : (Region.ready md ops listed).contains i = true) (hi : ops[i]? = some oi) (hw : Region.wanted oi (yielded ops a.tmps) = true) (hf : Region.free md ops listed i = true) (hs : Region.noSelect ops = true)
    (hQ : ∀ c a w, Q (.panic c) (a.put oi.dst v) w → Q (.panic c) a w) (hy : ∀ w, S w → (execOp a.eval oi).run P w = .ok (.value v) w) (hS : S w)
    (h : wpAnyH P md ops Q S fuel (listed.setIfInBounds i true) (a.put oi.dst v) w) : wpAnyH P md ops Q S (fuel + 1) listed a w :=
  wpAnyH_take hi hs hf hr hQ (Or.inl ⟨hw, hy⟩) hS h
theorem takeOff {P : Program} {ops : Array Oper} {Q : Exit → Act → World → Prop} {md : Region.Mode} {S : World → Prop} {i : Nat} {oi : Oper} {fuel : Nat} {listed : Array Bool} {a : Act} {w : World}
    (hr : (Region.ready md ops listed).contains i = true) (hi : ops[i]? = some oi) (hw : Region.wanted oi (yielded ops a.tmps) = false) (hf : Region.free md ops listed i = true) (hs : Region.noSelect ops = true)
    (hQ : ∀ c a w, Q (.panic c) (a.put oi.dst undef) w → Q (.panic c) a w) (hS : S w)
    (h : wpAnyH P md ops Q S fuel (listed.setIfInBounds i true) (a.put oi.dst undef) w) : wpAnyH P md ops Q S (fuel + 1) listed a w :=
  wpAnyH_take hi hs hf hr hQ (Or.inr ⟨hw, rfl⟩) hS h
/-- one operation alone may come up -/
theorem takeOne {P : Program} {ops : Array Oper} {Q : Exit → Act → World → Prop} {md : Region.Mode} {S : World → Prop} {i : Nat} {oi : Oper} {fuel : Nat} {listed : Array Bool} {a : Act} {w : World}
    (hr : Region.ready md ops listed = [i]) (hi : ops[i]? = some oi) (hw : Region.wanted oi (yielded ops a.tmps) = true)
    (h : ∀ K' : Act → World → Prop, Shut (∀ a w, S w → (S w → wpAnyH P md ops Q S fuel (listed.setIfInBounds i true) a w) → K' a w) → Oper.wp P oi a w K' Q) : wpAnyH P md ops Q S (fuel + 1) listed a w :=
  wpAnyH_ready hr (by simp) (AllReadyH.cons hi (fun K hK => by rw [if_pos hw]; exact h K hK) AllReadyH.nil)
end Go.Zz

/- Davenport's bound: the program. -/
namespace Go.Zz
open Go.RowKit Go.Proofs
set_option maxHeartbeats 2000000
set_option maxRecDepth 8000

theorem castL_set (M : List Nat) (i x : Nat) : (castL M).set i (x : Int) = castL (M.set i x) := by unfold castL; rw [List.map_set]
/-- a row of numbers that is owned: shape, places -/
structure Dv (w0 : World) (ao : Option Addr) (n c : Nat) (M : List Nat) (W : World) : Prop where
  own : Own 3 w0 W (.slice ao n c) (castL M)
  len : M.length = n
  ext : Ext w0 W
theorem Dv.at {w0 W : World} {ao : Option Addr} {n c : Nat} {M : List Nat} (h : Dv w0 ao n c M W) {i : Nat} (hi : i < n) : ∃ g, ao = some ⟨g, 0, none⟩ := by
  obtain ⟨ao', c', hv, -, -, hs⟩ := h.own.shape
  obtain ⟨g, hg, -, -⟩ := hs i (by rw [castL_len, h.len]; exact hi)
  simp only [Value.slice.injEq] at hv
  exact ⟨g, hv.1.trans hg⟩
theorem Dv.cell {w0 W : World} {g n c : Nat} {M : List Nat} (h : Dv w0 (some ⟨g, 0, none⟩) n c M W) {i : Nat} (hi : i < n) : W.cell? ⟨g, i, none⟩ = some (.int .i64 (nthN M i)) ∧ W.frozen? ⟨g, i, none⟩ = false ∧ w0.heap.size ≤ g := by
  obtain ⟨ao', c', hv, -, hb, hs⟩ := h.own.shape
  obtain ⟨g', hg, hc, hf⟩ := hs i (by rw [castL_len, h.len]; exact hi)
  simp only [Value.slice.injEq] at hv
  have e := hv.1.trans hg
  simp only [Option.some.injEq, Addr.mk.injEq, and_true] at e
  obtain rfl := e
  obtain ⟨g2, e2, h2, -⟩ := hb _ hg
  simp only [Addr.mk.injEq, and_true] at e2
  subst e2
  exact ⟨by rw [hc, nth_castL], hf, h2⟩
theorem Dv.set {w0 W : World} {g n c : Nat} {M : List Nat} (h : Dv w0 (some ⟨g, 0, none⟩) n c M W) (hg : w0.heap.size ≤ g) (i x : Nat) : Dv w0 (some ⟨g, 0, none⟩) n c (M.set i x) (W.setCell ⟨g, i, none⟩ (.int .i64 (x : Int))) := by
  obtain ⟨h1, rfl, h3⟩ := h
  refine ⟨?_, by simp, h3.setCell hg _⟩
  have e : (castL M).length = M.length := castL_len M
  have := Own.stored (c := c) (by rw [e]; exact h1) i (x : Int)
  rw [e, castL_set] at this
  exact this
theorem Dv.ext2 {w0 W V : World} {ao : Option Addr} {n c : Nat} {M : List Nat} (h : Dv w0 ao n c M W) (hV : Ext W V) : Dv w0 ao n c M V := ⟨h.own.ext hV, h.len, h.ext.trans hV⟩
theorem Dv.drew {w0 W : World} {ao : Option Addr} {n c : Nat} {M : List Nat} (h : Dv w0 ao n c M W) : Dv w0 ao n c M W.drew := ⟨h.own.drew, h.len, h.ext.drew⟩
theorem dv_index (g n c : Nat) : ∀ (i : Nat) W, i < n → (Instr.indexAt 22 (.slice (some ⟨g, 0, none⟩) n c) (.int .i64 (i : Int))).run Tryz.prog W = .ok (.pointer (some ⟨g, i, none⟩)) W := by
  intro i W hi
  rw [run_indexAt_slice (h := elI), if_pos (by omega), szI]
  simp [Result.andThen, Addr.add_lit]
end Go.Zz

/- Tilings: differences; the search of the reference. -/
namespace Go.Zz
open Go.RowKit Go.Proofs
set_option maxHeartbeats 1000000
set_option maxRecDepth 4000

--%call minus 210 ext minus_any _ _ _ _ _ ({0}) ({1}) ({2}) ({3})
theorem minus_any (v : Value) (l : List Int) (x y : Nat) (w : World) (h : Ints w v l) (Hgr : Hid (isGrp l = true)) (hx : x < 16777216) (hy : y < 24) :
    Calls Tryz.prog 210 #[.agg #[v], .int .i64 x, .int .i64 y] w fun e w' => e = .returned (.int .i64 (addF l x (negF l y) : Nat)) ∧ Ext w w' := by
  obtain ⟨wb, hwb⟩ : ∃ wb, wb = w.alloc (.cells #[v] 27) := ⟨_, rfl⟩
  have hE0 := (Ext.refl w).alloc (.cells #[v] 27)
  have hb := box_cell w v 27
  rw [← hwb] at hE0 hb
  have hg : ∀ W, Ext wb W → Ints W v l := fun W hW => h.ext (hE0.trans hW)
  have hE := Ext.refl wb
  have Hsz : Hid (w.heap.size + 1 = wb.heap.size) := Lib.hid (by rw [hwb]; simp [go_sem])
  have Hwb := Lib.hid hwb
  clear hwb h
  have hbx := fun U => hb _ (lat_ext wb U)
  have hng : negF l y < 16777216 := by have := negF_lt l (isGrp_ords Hgr.out) y; have := (ord_bd Hgr.out).2; omega
  go_enter Tryz.func210, Tryz.ntmps210
  go_wp2_with fail
  rw [← Hwb.out]
  (refine wp_region_lat (wb) (by kernel_rfl) (by kernel_rfl) hE ?_); (repeat (go_big_quiet_step (first | (go_at_call 197; exact Calls.lat (negate_any _ _ _ _ (hg _ (lat_ext wb _)) (Hgr) ((by omega)))) | (go_at_call 194; exact Calls.lat (add_any _ _ _ _ _ (hg _ (lat_ext wb _)) (Hgr) (hx) (hng)))))); (refine wpQuiet_nil ?_); (intro W hE'); (replace hE := lat_of hE'); (clear hE')
  go_wp2_with fail
  go_ret
  exact ⟨rfl, hE0.trans hE⟩
theorem sSearch_any (v : Value) (l : List Int) (a : Nat) (Hgr : Hid (isGrp l = true)) (ha0 : a ≠ 0) (ha : a < 2 ^ ord l) : ∀ (f u b m : Nat) (w : World), Ints w v l → ord l < cnt u + f → u < 2 ^ ord l → b < 2 ^ 24 → 1 ≤ m → m ≤ 1000 →
    Calls Tryz.prog 177 #[.agg #[v], .int .i64 a, .int .i64 (fullN l : Nat), .int .i64 u, .int .i64 b, .int .i64 m] w fun e w' => ∃ v', e = .returned v' ∧ Own 3 w w' v' (castL (tlS l a f u b m)) ∧ Ext w w' := by
  intro f
  induction f with
  | zero => intro u b m w h hf hu; have := cnt_ord Hgr.out hu; omega
  | succ f ih =>
    intro u b m w h hf hu hb24 hm1 hm2
    have hob := ord_bd Hgr.out
    have hp24 := pow_ord Hgr.out
    have ha24 : a < 2 ^ 24 := Nat.lt_of_lt_of_le ha hp24
    have hu24 : u < 2 ^ 24 := Nat.lt_of_lt_of_le hu hp24
    obtain ⟨wb, hwb⟩ : ∃ wb, wb = w.alloc (.cells #[v] 27) := ⟨_, rfl⟩
    have hE0 := (Ext.refl w).alloc (.cells #[v] 27)
    have hb := box_cell w v 27
    rw [← hwb] at hE0 hb
    have hg : ∀ W, Ext wb W → Ints W v l := fun W hW => h.ext (hE0.trans hW)
    have hE := Ext.refl wb
    have Hsz : Hid (w.heap.size + 1 = wb.heap.size) := Lib.hid (by rw [hwb]; simp [go_sem])
    have Hwb := Lib.hid hwb
    clear hwb h
    have Hih := Lib.hid ih
    clear ih
    by_cases hfull : u = fullN l
    · have He := Lib.hid (tlS_full (l := l) (a := a) (f := f) (b := b) (m := m) hfull)
      have hq : ((u : Int) == (fullN l : Int)) = true := by rw [hfull]; simp
      clear hfull
      have hOl : Own 3 w (wb.alloc (.cells #[.int .i64 b] 3)) (.slice (some ⟨wb.heap.size, 0, none⟩) 1 1) (castL [b]) := own_made (TI := 3) (n := 1) (by omega) hE0 (castL [b]) rfl
      rw [← Hsz.out, Hwb.out] at hOl
      have hEl := hE0.alloc (.cells #[.int .i64 (b : Int)] 3)
      rw [Hwb.out] at hEl
      go_enter Tryz.func177, Tryz.ntmps177
      go_wp2_with fail
      go_ret
      exact ⟨_, rfl, by rw [He.out]; exact hOl, hEl⟩
    · have hq : ((u : Int) == (fullN l : Int)) = false := by rw [beq_eq_false_iff_ne]; omega
      have Hnf := Lib.hid hfull
      clear hfull
      obtain ⟨wc, hwc⟩ : ∃ wc, wc = wb.alloc (.cells #[] 3) := ⟨_, rfl⟩
      have hBk : Blk wc wb.heap.size 3 #[] := by rw [hwc]; exact Blk.new _ _ _
      have hEbc : Ext wb wc := by rw [hwc]; exact hE.alloc _
      have Hwc := Lib.hid hwc
      clear hwc
      go_enter Tryz.func177, Tryz.ntmps177
      go_wp2_with fail
      rw [← Hwb.out]
      go_loop [13] (fun xv => ∃ e : Nat, e ≤ ord l ∧ xv = .int .i64 e ∧ ∀ j, j < e → u.testBit j = true) (fun x => ord l - (intOf x).toNat)
      case atStart => exact ⟨0, by omega, rfl, by omega⟩
      case round =>
        obtain ⟨e, he, rfl, hall⟩ := hrel
        have hsh := ishr_nat (a := u) (n := e) (by omega)
        have hbt := bit_test' (a := u) (n := e) (by omega) (by omega)
        cases hbe : u.testBit e
        · rw [hbe] at hbt
          have helt : e < ord l := Classical.byContradiction fun hn => Hnf.out (not_full hu hall (by omega))
          have hlow : Hid (lowZ u = e) := Lib.hid (lowZ_is hall hbe (by omega))
          clear hall hbe
          go_wp2_with fail
          rw [← Hwc.out]
          clear hsh hbt
          refine (l3List_any a ha24 _).mono ?_
          rintro e1 w1 ⟨v1, rfl, hL, hE1⟩
          obtain ⟨aoL, cL, adrL, rfl, hadrL, hcellL⟩ := hL.ints.nats
          have hixL := ints_index (c := cL) elI szI hadrL
          have hE01 : Ext wb w1 := hEbc.trans hE1
          have hb1 : ∀ W, Ext w1 W → W.cell? ⟨w.heap.size, 0, none⟩ = some v := fun W hW => hb W (hE01.trans hW)
          have hg1 : ∀ W, Ext w1 W → Ints W v l := fun W hW => hg W (hE01.trans hW)
          have hOE : OwnE 3 wb w1 w1 (.slice (some ⟨wb.heap.size, 0, none⟩) 0 0) [] := OwnE.start w1 hBk hE1
          clear hadrL hb hg hL
          have hL24 : ∀ y ∈ elems a, y < 24 := fun y hy => elems_lt hy
          have hlen := elems_len a
          obtain ⟨L, hLdef⟩ : ∃ L, L = elems a := ⟨_, rfl⟩
          rw [← hLdef] at hcellL hixL hL24 hlen ⊢
          have HL := Lib.hid hLdef
          clear hLdef
          go_wp2_with fail
          go_loopw [14, 16] (fun ov i wr => ∃ k : Nat, k ≤ L.length ∧ i = .int .i64 k ∧ OwnE 3 wb w1 wr ov (castL (tlSto l a f u b m k)) ∧ Ext w1 wr) (fun _ i _ => L.length - (intOf i).toNat)
          case atStart => exact ⟨0, by omega, rfl, hOE, Ext.refl _⟩
          case round =>
            clear hOE hE
            obtain ⟨k, hk, rfl, hO, hEr⟩ := hrel
            obtain ⟨ab, cb, rfl, -⟩ := (hO.own hE01).shape
            obtain ⟨O, hOd⟩ : ∃ O, O = tlSto l a f u b m k := ⟨_, rfl⟩
            rw [← hOd] at hO ⊢
            rw [castL_len O] at hO ⊢
            by_cases hlt : k < L.length ∧ O.length < m
            · obtain ⟨hlt, hlm⟩ := hlt
              have hka : k < (elems a).length := by rw [← HL.out]; exact hlt
              have hX24 := hL24 _ (nthN_mem hlt)
              have Hel : Hid ((elems a)[k] = nthN L k) := Lib.hid (by rw [HL.out]; simp [nthN, List.getD, hka])
              obtain ⟨X, hX⟩ : ∃ X, X = nthN L k := ⟨_, rfl⟩
              have hck := fun U => hcellL k _ hlt (hEr.trans (lat_ext wr U))
              rw [← hX] at hck hX24 Hel
              have hbx := fun U => hb1 _ (hEr.trans (lat_ext wr U))
              have hng : negF l X < 16777216 := by have := negF_lt l (isGrp_ords Hgr.out) X; omega
              have hD24 : addF l e (negF l X) < 24 := Nat.lt_of_lt_of_le (addF_lt l (isGrp_ords Hgr.out) _ _) hob.2
              have HD : Hid (dF l u X = addF l e (negF l X)) := Lib.hid (by unfold dF; rw [hlow.out])
              obtain ⟨D, hD⟩ : ∃ D, D = addF l e (negF l X) := ⟨_, rfl⟩
              have hcA := fun W (hW : Ext wr W) => l2Add_any v l e (negF l X) W (hg1 _ (hEr.trans hW)) Hgr (by omega) hng
              rw [← hD] at hcA hD24 HD
              have hS24 := shiftF_bd Hgr.out a D
              obtain ⟨S, hS⟩ : ∃ S, S = shiftF l a D := ⟨_, rfl⟩
              have hcS := fun W (hW : Ext wr W) => l3Shift_any v l a D W (hg1 _ (hEr.trans hW)) Hgr ha24 hD24
              rw [← hS] at hcS hS24
              have hand : iand (S : Int) (u : Int) = ((S &&& u : Nat) : Int) := iand_nat (by omega) (by omega)
              have hmO : (O.length : Int) < (m : Int) := by omega
              have hE := Ext.refl wr
              clear hX hD
              cases hz : (((S &&& u : Nat) : Int) == 0)
              · have Hn : Hid (tlSto l a f u b m (k + 1) = O) := Lib.hid (by
                  rw [tlSto_no hka, hOd]
                  rw [Hel.out, HD.out, ← hS]
                  rw [beq_eq_false_iff_ne] at hz; omega)
                clear hOd hS
                go_wp2_with fail
                (refine wp_region_lat (wr) (by kernel_rfl) (by kernel_rfl) hE ?_); (repeat (go_big_quiet_step (first | (go_at_call 211; exact Calls.lat (l2Negate_any _ _ _ _ ((hg1 _ (hEr.trans (lat_ext wr _)))) (Hgr) ((by omega)))) | (go_at_call 141; exact Calls.lat (hcA _ (lat_ext wr _)))))); (refine wpQuiet_nil ?_); (intro W hE'); (replace hE := lat_of hE'); (clear hE')
                have hE11 := hEr.trans hE
                go_wp2_with (go_at_call 143; refine (hcS _ hE).mono ?_; rintro e' w' ⟨rfl, hE'⟩; replace hE := hE.trans hE'; clear hE')
                go_roundw
                case rel => exact ⟨k + 1, by omega, by go_num, by rw [Hn.out]; exact hO.ext hE, hEr.trans hE⟩
                case measure => (simp [intOf]; omega)
              · have hz' : S &&& u = 0 := by rw [beq_iff_eq] at hz; omega
                have hmore := tl_more Hgr.out ha0 ha hu D (by rw [← hS]; exact hz')
                rw [← hS] at hmore
                have Hn : Hid (tlSto l a f u b m (k + 1) = O ++ tlS l a f (u ||| S) (b ||| 2 ^ D) (m - O.length)) := Lib.hid (by
                  have := tlSto_yes (l := l) (a := a) (f := f) (u := u) (b := b) (m := m) hka (by rw [← hOd]; exact hlm) (by rw [Hel.out, HD.out, ← hS]; exact hz')
                  rw [this, ← hOd, Hel.out, HD.out, ← hS])
                have hbd : b ||| 2 ^ D < 2 ^ 24 := Nat.or_lt_two_pow hb24 (Nat.pow_lt_pow_right (by omega) hD24)
                have hcR := fun W (hI : Ints W v l) => Hih.out (u ||| S) (b ||| 2 ^ D) (m - O.length) W hI (by omega) hmore.1 hbd (by omega) (by omega)
                have hTl := tlS_len l a f (u ||| S) (b ||| 2 ^ D) (m - O.length) (by omega)
                obtain ⟨Y, hY⟩ : ∃ Y, Y = tlS l a f (u ||| S) (b ||| 2 ^ D) (m - O.length) := ⟨_, rfl⟩
                rw [← hY] at hcR hTl Hn
                have hs0 : ior (u : Int) (S : Int) = ((u ||| S : Nat) : Int) := ior_nat (by omega) (by omega)
                have hs1 := ishl_one (n := D) (by omega)
                have hs2 := ior_pw hb24 hD24
                have hsm : ((m - O.length : Nat) : Int) = (m : Int) - (O.length : Int) := by omega
                rw [hsm] at hcR
                have hwr : IntKind.i64.wrap ((m : Int) - (O.length : Int)) = (m : Int) - (O.length : Int) := by apply IntWalk.i64_in; omega
                have hln : (castL O).length + (castL Y).length ≤ 17592186044416 := by rw [castL_len, castL_len]; omega
                have Hcat : Hid (castL (O ++ Y) = castL O ++ castL Y) := Lib.hid (by simp [castL])
                clear hOd hS hY hmore hbd hTl hsm hz'
                go_wp2_with fail
                (refine wp_region_lat (wr) (by kernel_rfl) (by kernel_rfl) hE ?_); (repeat (go_big_quiet_step (first | (go_at_call 211; exact Calls.lat (l2Negate_any _ _ _ _ ((hg1 _ (hEr.trans (lat_ext wr _)))) (Hgr) ((by omega)))) | (go_at_call 141; exact Calls.lat (hcA _ (lat_ext wr _)))))); (refine wpQuiet_nil ?_); (intro W hE'); (replace hE := lat_of hE'); (clear hE')
                have hE11 := hEr.trans hE
                go_wp2_with (go_at_call 143; refine (hcS _ hE).mono ?_; rintro e' w2 ⟨rfl, hE'⟩; replace hE := hE.trans hE'; clear hE')
                have hE12 := hEr.trans hE
                have hD0 := (Ext.refl w2).drew
                first | (go_region_held3 (fun W => Ext w1 W ∧ W.cell? ⟨w.heap.size, 0, none⟩ = some v) (exact ⟨(by repeat (first | assumption | exact Ext.refl _ | (apply And.left; assumption) | apply Ext.drew | apply Ext.alloc)), hb1 _ (by repeat (first | assumption | exact Ext.refl _ | (apply And.left; assumption) | apply Ext.drew | apply Ext.alloc))⟩) (first | (go_at_call 177; ((with_reducible refine Calls.mono (hcR _ (hg1 _ (by repeat (first | assumption | exact Ext.refl _ | (apply And.left; assumption) | apply Ext.drew | apply Ext.alloc)))) ?_); rintro eH wH0 ⟨vH, rfl, hOn, hX0⟩; have hH0 := Ext.trans (a := w1) (by repeat (first | assumption | exact Ext.refl _ | (apply And.left; assumption) | apply Ext.drew | apply Ext.alloc)) hX0; have hR0 := Ext.trans (a := wr) (by repeat (first | assumption | exact Ext.refl _ | (apply And.left; assumption) | apply Ext.drew | apply Ext.alloc)) hX0)) | (refine step_appendsE slI rfl _ _ rfl wb w1 _ _ _ _ (hO.ext (by repeat (first | assumption | exact Ext.refl _ | (apply And.left; assumption) | apply Ext.drew | apply Ext.alloc))) hOn.ints hH0 hln rfl rfl ?_; intro vA wA hOA hXA hTA))) | (fail "the region")
                go_wp2_with fail
                go_roundw
                case rel => exact ⟨k + 1, by omega, by go_num, by rw [Hn.out, Hcat.out]; exact hOA, hXA⟩
                case measure => (simp [intOf]; omega)
            · have Hn : Hid (tlS l a (f + 1) u b m = O) := Lib.hid (by
                rw [hOd]
                exact tlS_stop Hnf.out (by rw [← HL.out]; exact hk) (by rw [← HL.out, ← hOd]; omega))
              have hE3 := hE0.trans (hE01.trans hEr)
              have hO' := (hO.own hE01).mono hE0
              clear hOd hO
              by_cases h1 : k < L.length
              all_goals
                have h2 : k < L.length → ¬ (O.length : Int) < (m : Int) := by omega
                try replace h2 := h2 h1
                clear hlt
                go_wp2_with fail
                go_ret
                exact ⟨_, rfl, by rw [Hn.out]; exact hO', hE3⟩
        · rw [hbe] at hbt
          have helt := bit_lt hu hbe
          go_wp2_with fail
          go_round
          case rel => exact ⟨e + 1, by omega, by go_num, fun j hj => by by_cases hje : j = e; (subst hje; exact hbe); exact hall j (by omega)⟩
          case measure => (simp [intOf]; omega)
end Go.Zz

/- Tilings: the search of the program, a closure. -/
namespace Go.Zz
open Go.RowKit Go.Proofs
set_option maxHeartbeats 2000000
set_option maxRecDepth 4000

theorem tl_any (v : Value) (l : List Int) (a m : Nat) (Hgr : Hid (isGrp l = true)) (ha0 : a ≠ 0) (ha : a < 2 ^ ord l) (hm : m ≤ 1000) (W0 : World) (bG bO bA bM bT : Nat) (hbt : bO ≠ bT) (hbO : W0.heap.size ≤ bO) (fn : Value)
    (HG : ∀ W, Ext W0 W → W.cell? ⟨bG, 0, none⟩ = some v) (HA : ∀ W, Ext W0 W → W.cell? ⟨bA, 0, none⟩ = some (.int .i64 a)) (HM : ∀ W, Ext W0 W → W.cell? ⟨bM, 0, none⟩ = some (.int .i64 m)) (HI : Hid (∀ W, Ext W0 W → Ints W v l))
    (hfn : fn = .func (.func 209) #[] #[.pointer (some ⟨bG, 0, none⟩), .pointer (some ⟨bO, 0, none⟩), .pointer (some ⟨bA, 0, none⟩), .pointer (some ⟨bM, 0, none⟩), .pointer (some ⟨bT, 0, none⟩)]) :
    ∀ (f u b : Nat) (w : World) (vo : Value) (out : List Nat), ord l < cnt u + f → u < 2 ^ ord l → b < 2 ^ 24 → out.length < m → Ext W0 w → Blk w bO 22 #[vo] → Own 3 W0 w vo (castL out) → Blk w bT 144 #[fn] →
    Calls Tryz.prog 209 #[.int .i64 b, .int .i64 u, .pointer (some ⟨bG, 0, none⟩), .pointer (some ⟨bO, 0, none⟩), .pointer (some ⟨bA, 0, none⟩), .pointer (some ⟨bM, 0, none⟩), .pointer (some ⟨bT, 0, none⟩)] w fun e w' =>
      e = .returned (.tuple #[]) ∧ ∃ vo', Blk w' bO 22 #[vo'] ∧ Own 3 W0 w' vo' (castL (tlI l a m f u b out)) ∧ Fr bO vo.ownBlock w w' ∧ Nw vo.ownBlock w vo'.ownBlock := by
  intro f
  induction f with
  | zero => intro u b w vo out hf hu; have := cnt_ord Hgr.out hu; omega
  | succ f ih =>
    intro u b w vo out hf hu hb24 hom hE0 hBO hO hBT
    rw [hfn] at hBT
    have hob := ord_bd Hgr.out
    have hp24 := pow_ord Hgr.out
    have ha24 : a < 2 ^ 24 := Nat.lt_of_lt_of_le ha hp24
    have hu24 : u < 2 ^ 24 := Nat.lt_of_lt_of_le hu hp24
    have hTO := own_not hO hBT (by decide)
    have hOO := own_not hO hBO (by decide)
    obtain ⟨ao, co, rfl, -⟩ := hO.shape
    rw [castL_len] at hO hBO hTO hOO ⊢
    rw [hfn] at ih
    have Hih := Lib.hid ih
    clear ih
    by_cases hfull : u = fullN l
    · have He := Lib.hid (tlI_full (l := l) (a := a) (m := m) (f := f) (b := b) (out := out) hfull)
      have hq : ((u : Int) == (fullN l : Int)) = true := by rw [hfull]; simp
      have Hc : Hid (castL (out ++ [b]) = castL out ++ [(b : Int)]) := Lib.hid (by simp [castL])
      clear hfull
      have hlen : (castL out).length < 17592186044416 := by rw [castL_len]; omega
      have kO : ∀ W, Ext w W → W.cell? ⟨bO, 0, none⟩ = some (.slice ao out.length co) := fun W hW => (hBO.ext hW).cell (i := 0) rfl
      go_enter Tryz.func209, Tryz.ntmps209
      go_wp2_with (first
        | (go_at_call 169; refine (FullSet_grp _ _ _ (HI.out _ hE0) Hgr).mono ?_; rintro e w1 ⟨rfl, hE1⟩)
        | (at_builtin; refine wp_append1F slI rfl _ _ rfl W0 _ _ _ _ (hO.ext hE1) (hE0.trans hE1) hlen rfl rfl ?_; intro v2 w2 hO2 hG2 hN2; have hB2 := hBO.ext hE1; replace hB2 := hB2.grown hG2 (fun k hk e => hOO (by rw [hk, e])); have hc2 := hB2.cell (i := 0) (v := .slice ao out.length co) rfl; have hf2 := hB2.free 0; obtain ⟨a2, c2, rfl, -⟩ := hO2.shape; obtain ⟨n2, hn2⟩ : ∃ n, n = (castL out ++ [(b : Int)]).length := ⟨_, rfl⟩; rw [← hn2] at hO2 hN2 ⊢; replace hn2 := Lib.hid hn2))
      have hF2 := ((hE1.fr bO (Value.slice ao out.length co).ownBlock).trans (Nw.refl _ _) (fr_grown hG2)).trans (Nw.refl _ _) (fr_set bO _ w2 0 (.slice a2 n2 c2))
      have hB3 : Blk (w2.setCell ⟨bO, 0, none⟩ (.slice a2 n2 c2)) bO 22 #[.slice a2 n2 c2] := hB2.set 0 (.slice a2 n2 c2)
      have hO3 := (fr_set bO none w2 0 (.slice a2 n2 c2)).own hO2 (own_not hO2 hB2 (by decide)) (by cases hq : (Value.slice a2 n2 c2).ownBlock with
        | none => exact Or.inl rfl
        | some k => exact Or.inr (by simp))
      exact bodyPost_ret (v := .tuple #[]) (by simp [results, Tryz.results209, go_sem]) rfl ⟨rfl, _, hB3, by rw [He.out, Hc.out]; exact hO3, hF2, (Nw.refl _ _).trans hE1.size hN2⟩
    · have hq : ((u : Int) == (fullN l : Int)) = false := by rw [beq_eq_false_iff_ne]; omega
      have Hnf := Lib.hid hfull
      clear hfull
      go_enter Tryz.func209, Tryz.ntmps209
      go_wp2_with (go_at_call 169; refine (FullSet_grp _ _ _ (HI.out _ hE0) Hgr).mono ?_; rintro e w1 ⟨rfl, hE1⟩)
      have hE01 := hE0.trans hE1
      go_loop [9] (fun xv => ∃ e : Nat, e ≤ ord l ∧ xv = .int .i64 e ∧ ∀ j, j < e → u.testBit j = true) (fun x => ord l - (intOf x).toNat)
      case atStart => exact ⟨0, by omega, rfl, by omega⟩
      case round =>
        obtain ⟨e, he, rfl, hall⟩ := hrel
        cases hbe : u.testBit e
        · have helt : e < ord l := Classical.byContradiction fun hn => Hnf.out (not_full hu hall (by omega))
          have hlow : Hid (lowZ u = e) := Lib.hid (lowZ_is hall hbe (by omega))
          have hcN := in_val u e hu24 (by omega) w1 hbe
          clear hall hbe
          go_wp2_with (first | (go_at_call 163; refine hcN.mono ?_; rintro e' w' ⟨rfl, hw'⟩; subst hw') | (go_at_call 153; refine (members_any a ha24 _).mono ?_; rintro e2 w2 ⟨v2, rfl, hL, hE2⟩; obtain ⟨aoL, cL, adrL, rfl, hadrL, hcellL⟩ := hL.ints.nats))
          have hixL := ints_index (c := cL) elI szI hadrL
          have hE12 := hE1.trans hE2
          have hE02 := hE01.trans hE2
          have hB2 := hBO.ext hE12
          have hO2 := hO.ext hE12
          have hT2 := hBT.ext hE12
          have hnL1 := own_nb hL (Nat.lt_of_lt_of_le hBO.lt hE1.size)
          have hnL2 : (Value.slice aoL (elems a).length cL).ownBlock = none ∨ (Value.slice aoL (elems a).length cL).ownBlock ≠ (Value.slice ao out.length co).ownBlock := by
            cases hq : (Value.slice aoL (elems a).length cL).ownBlock with
            | none => exact Or.inl rfl
            | some j => exact Or.inr fun e => by have h1 := (hL.blk j hq).1; have h2 := (hO.blk j e.symm).2; have := hE1.size; omega
          have hL24 : ∀ y ∈ elems a, y < 24 := fun y hy => elems_lt hy
          have hlenL := elems_len a
          have hoB : ∀ j, (Value.slice ao out.length co).ownBlock = some j → W0.heap.size ≤ j := fun j hj => (hO.blk j hj).1
          clear hO hBO hBT hcellL
          obtain ⟨oB, hoBd⟩ : ∃ oB, oB = (Value.slice ao out.length co).ownBlock := ⟨_, rfl⟩
          have HL := Lib.hid hL
          have HnL2 := Lib.hid hnL2
          have HN12 := Lib.hid hE12
          have HadrL := Lib.hid hadrL
          clear hL hnL2 hadrL
          go_loopw [30] (fun i wr => ∃ (k : Nat) (vo' : Value), k ≤ (elems a).length ∧ i = .int .i64 k ∧ Blk wr bO 22 #[vo'] ∧ Own 3 W0 wr vo' (castL (tlIto l a m f u b out k)) ∧ Fr bO (Value.slice ao out.length co).ownBlock w2 wr ∧ Nw (Value.slice ao out.length co).ownBlock w2 vo'.ownBlock) (fun i _ => (elems a).length - (intOf i).toNat)
          case atStart => exact ⟨0, _, by omega, rfl, hB2, hO2, Fr.refl _ _ _, Nw.refl _ _⟩
          case round =>
            clear hB2 hO2
            obtain ⟨k, vo', hk, rfl, hBr, hOr, hFr, hNr⟩ := hrel
            have hE0r := hFr.ext hE02 hbO hoB
            have hTr := hFr.blk hT2 (Ne.symm hbt) hTO
            have HLr := Lib.hid (hFr.own HL.out hnL1 HnL2.out)
            have HFr := Lib.hid hFr
            have HNr := Lib.hid hNr
            clear hFr hNr
            obtain ⟨ab, cb, rfl, -⟩ := hOr.shape
            obtain ⟨O, hOd⟩ : ∃ O, O = tlIto l a m f u b out k := ⟨_, rfl⟩
            rw [← hOd] at hOr hBr HNr
            rw [castL_len] at hOr hBr HNr
            by_cases hlt : k < (elems a).length
            · have hX24 := hL24 _ (nthN_mem hlt)
              have Hel : Hid ((elems a)[k] = nthN (elems a) k) := Lib.hid (by simp [nthN, List.getD, hlt])
              have hck : wr.cell? (adrL k) = some (.int .i64 (nthN (elems a) k : Int)) := by
                obtain ⟨ao2, c2, hv, -, -, hc⟩ := HLr.out.ints
                rw [castL_len] at hc hv
                simp only [Value.slice.injEq] at hv
                obtain ⟨a2, ha2, hc2⟩ := hc k hlt
                obtain ⟨h1, h2⟩ := HadrL.out k hlt
                rw [nth_castL] at hc2
                rw [← hv.1, h1] at ha2
                simp only [Option.some.injEq] at ha2
                rw [h2, ha2]; exact hc2
              obtain ⟨X, hX⟩ : ∃ X, X = nthN (elems a) k := ⟨_, rfl⟩
              rw [← hX] at hck hX24 Hel
              have hng : negF l X < 16777216 := by have := negF_lt l (isGrp_ords Hgr.out) X; omega
              have hD24 : addF l e (negF l X) < 24 := Nat.lt_of_lt_of_le (addF_lt l (isGrp_ords Hgr.out) _ _) hob.2
              have HD : Hid (dF l u X = addF l e (negF l X)) := Lib.hid (by unfold dF; rw [hlow.out])
              obtain ⟨D, hD⟩ : ∃ D, D = addF l e (negF l X) := ⟨_, rfl⟩
              have hcA := fun W (hW : Ext wr W) => minus_any v l e X W (HI.out _ (hE0r.trans hW)) Hgr (by omega) hX24
              rw [← hD] at hcA hD24 HD
              have hS24 := shiftF_bd Hgr.out a D
              obtain ⟨S, hS⟩ : ∃ S, S = shiftF l a D := ⟨_, rfl⟩
              have hcS := fun W (hW : Ext wr W) => shift_any v l a D W (HI.out _ (hE0r.trans hW)) Hgr ha24 hD24
              rw [← hS] at hcS hS24
              have hand : iand (S : Int) (u : Int) = ((S &&& u : Nat) : Int) := iand_nat (by omega) (by omega)
              clear hX hD HLr
              cases hz : (((S &&& u : Nat) : Int) == 0)
              · have Hn : Hid (tlIto l a m f u b out (k + 1) = O) := Lib.hid (by
                  rw [tlIto_no hlt, hOd]
                  rw [Hel.out, HD.out, ← hS]
                  rw [beq_eq_false_iff_ne] at hz; omega)
                clear hOd hS
                go_wp2_with (first | (go_at_call 210; refine (hcA _ (Ext.refl _)).mono ?_; rintro e3 w3 ⟨rfl, hE3⟩; have hE03 := hE0r.trans hE3) | (go_at_call 166; refine (hcS _ hE3).mono ?_; rintro e4 w4 ⟨rfl, hE4⟩; have hE04 := hE03.trans hE4; have hE34 := hE3.trans hE4))
                go_roundw
                case rel => exact ⟨k + 1, _, by omega, by go_num, hBr.ext hE34, by rw [Hn.out]; exact hOr.ext hE34, HFr.out.trans HNr.out (hE34.fr _ _), HNr.out⟩
                case measure => (simp [intOf]; omega)
              · have hz' : S &&& u = 0 := by rw [beq_iff_eq] at hz; omega
                have kO : ∀ W, Ext wr W → W.cell? ⟨bO, 0, none⟩ = some (.slice ab O.length cb) := fun W hW => (hBr.ext hW).cell (i := 0) rfl
                by_cases hlm : (O.length : Int) < (m : Int)
                · have hmore := tl_more Hgr.out ha0 ha hu D (by rw [← hS]; exact hz')
                  rw [← hS] at hmore
                  have Hn : Hid (tlIto l a m f u b out (k + 1) = tlI l a m f (u ||| S) (b ||| 2 ^ D) O) := Lib.hid (by
                    have := tlIto_yes (l := l) (a := a) (m := m) (f := f) (u := u) (b := b) (out := out) hlt (by rw [Hel.out, HD.out, ← hS]; exact hz') (by rw [← hOd]; omega)
                    rw [this, ← hOd, Hel.out, HD.out, ← hS])
                  have hbd : b ||| 2 ^ D < 2 ^ 24 := Nat.or_lt_two_pow hb24 (Nat.pow_lt_pow_right (by omega) hD24)
                  have hcR := fun W (hE : Ext wr W) => Hih.out (u ||| S) (b ||| 2 ^ D) W (.slice ab O.length cb) O (by omega) hmore.1 hbd (by omega) (hE0r.trans hE) (hBr.ext hE) (hOr.ext hE) (hTr.ext hE)
                  have hs0 : ior (u : Int) (S : Int) = ((u ||| S : Nat) : Int) := ior_nat (by omega) (by omega)
                  have hs1 := ishl_one (n := D) (by omega)
                  have hs2 := ior_pw hb24 hD24
                  have kt : ∀ W, Ext wr W → W.cell? ⟨bT, 0, none⟩ = some (.func (.func 209) #[] #[.pointer (some ⟨bG, 0, none⟩), .pointer (some ⟨bO, 0, none⟩), .pointer (some ⟨bA, 0, none⟩), .pointer (some ⟨bM, 0, none⟩), .pointer (some ⟨bT, 0, none⟩)]) := fun W hW => (hTr.ext hW).cell (i := 0) rfl
                  clear hOd hS hmore hbd hz'
                  go_wp2_with (first | (go_at_call 210; refine (hcA _ (Ext.refl _)).mono ?_; rintro e3 w3 ⟨rfl, hE3⟩; have hE03 := hE0r.trans hE3) | (go_at_call 166; refine (hcS _ hE3).mono ?_; rintro e4 w4 ⟨rfl, hE4⟩; have hE04 := hE03.trans hE4; have hE34 := hE3.trans hE4))
                  have hD0 := (Ext.refl w4).drew
                  first | (go_region_held3 (fun W => W.cell? ⟨bT, 0, none⟩ = some (.func (.func 209) #[] #[.pointer (some ⟨bG, 0, none⟩), .pointer (some ⟨bO, 0, none⟩), .pointer (some ⟨bA, 0, none⟩), .pointer (some ⟨bM, 0, none⟩), .pointer (some ⟨bT, 0, none⟩)])) (first | exact hT5.cell (i := 0) rfl | exact kt _ (by repeat (first | assumption | exact Ext.refl _ | (apply And.left; assumption) | apply Ext.drew | apply Ext.alloc))) (first | (go_at_call 209; ((with_reducible refine Calls.mono (hcR _ (by repeat (first | assumption | exact Ext.refl _ | (apply And.left; assumption) | apply Ext.drew | apply Ext.alloc))) ?_); rintro eH w5 ⟨rfl, vo5, hB5, hO5, hF5, hN5⟩; have hT5 := hF5.blk (hTr.ext (by repeat (first | assumption | exact Ext.refl _ | (apply And.left; assumption) | apply Ext.drew | apply Ext.alloc))) (Ne.symm hbt) (own_not (hOr.ext (by repeat (first | assumption | exact Ext.refl _ | (apply And.left; assumption) | apply Ext.drew | apply Ext.alloc))) (hTr.ext (by repeat (first | assumption | exact Ext.refl _ | (apply And.left; assumption) | apply Ext.drew | apply Ext.alloc))) (by decide)))))) | (fail "the region")
                  go_wp2_with fail
                  go_roundw
                  case rel => exact ⟨k + 1, vo5, by omega, by go_num, hB5, by rw [Hn.out]; exact hO5, HFr.out.trans HNr.out ((hE34.drew.fr _ _).trans (Nw.refl _ _) hF5), HNr.out.trans (Nat.le_trans HFr.out.size hE34.drew.size) hN5⟩
                  case measure => (simp [intOf]; omega)
                · have Hn : Hid (tlIto l a m f u b out (k + 1) = O) := Lib.hid (by
                    rw [tlIto_no hlt, hOd]
                    rw [← hOd]; omega)
                  clear hOd hS hz'
                  go_wp2_with (first | (go_at_call 210; refine (hcA _ (Ext.refl _)).mono ?_; rintro e3 w3 ⟨rfl, hE3⟩; have hE03 := hE0r.trans hE3) | (go_at_call 166; refine (hcS _ hE3).mono ?_; rintro e4 w4 ⟨rfl, hE4⟩; have hE04 := hE03.trans hE4; have hE34 := hE3.trans hE4))
                  go_roundw
                  case rel => exact ⟨k + 1, _, by omega, by go_num, hBr.ext hE34, by rw [Hn.out]; exact hOr.ext hE34, HFr.out.trans HNr.out (hE34.fr _ _), HNr.out⟩
                  case measure => (simp [intOf]; omega)
            · have Hn : Hid (tlI l a m (f + 1) u b out = O) := Lib.hid (by rw [hOd, tlI_end Hnf.out, show k = (elems a).length by omega])
              clear hOd
              go_wp2_with fail
              go_end0
              exact ⟨rfl, _, hBr, by rw [Hn.out]; exact hOr, (HN12.out.fr _ _).trans (Nw.refl _ _) HFr.out, (Nw.refl _ _).trans HN12.out.size HNr.out⟩
        · have helt := bit_lt hu hbe
          have hcN := in_val u e hu24 (by omega) w1 hbe
          go_wp2_with (refine hcN.mono ?_; rintro e' w' ⟨rfl, hw'⟩; subst hw')
          go_round
          case rel => exact ⟨e + 1, by omega, by go_num, fun j hj => by by_cases hje : j = e; (subst hje; exact hbe); exact hall j (by omega)⟩
          case measure => (simp [intOf]; omega)
end Go.Zz

/- FindTile and ClaimOfTile of both. -/
namespace Go.Zz
open Go.RowKit Go.Proofs
set_option maxHeartbeats 2000000
set_option maxRecDepth 4000

theorem tiles_any (v : Value) (l : List Int) (a m : Nat) (w : World) (h : Ints w v l) (Hgr : Hid (isGrp l = true)) (ha0 : a ≠ 0) (ha : a < 2 ^ ord l) (hm1 : 1 ≤ m) (hm : m ≤ 1000) :
    Calls Tryz.prog 176 #[.agg #[v], .int .i64 a, .int .i64 m] w fun e w' => ∃ v', e = .returned v' ∧ Own 3 w w' v' (castL (tileL l a m)) ∧ Ext w w' := by
  have hp24 := pow_ord Hgr.out
  have ha24 : a < 2 ^ 24 := Nat.lt_of_lt_of_le ha hp24
  have He : Hid (tileL l a m = tlI l a m (ord l + 1) a 1 []) := Lib.hid (by
    have := tlI_eq l a m (ord l + 1) a 1 [] (by simp; omega)
    rw [this]; simp [tileL])
  have hca : 1 ≤ cnt a := cnt_pos (Nat.pos_of_ne_zero ha0) ha24
  have hmf : ∀ (fn : Fn) (first cap : Array Value) (w : World), (Instr.makeFunc fn first cap).run Tryz.prog w = .ok (.func fn first cap) w := fun _ _ _ _ => rfl
  have HH := Lib.hid h
  clear h
  go_enter Tryz.func176, Tryz.ntmps176
  go_wp2_with fail
  obtain ⟨w1, h1⟩ : ∃ x, x = w.alloc (.cells #[v] 27) := ⟨_, rfl⟩
  obtain ⟨w2, h2⟩ : ∃ x, x = w1.alloc (.cells #[.int .i64 (a : Int)] 3) := ⟨_, rfl⟩
  obtain ⟨w3, h3⟩ : ∃ x, x = w2.alloc (.cells #[.int .i64 (m : Int)] 3) := ⟨_, rfl⟩
  obtain ⟨w4, h4⟩ : ∃ x, x = w3.alloc (.cells #[] 3) := ⟨_, rfl⟩
  obtain ⟨w5, h5⟩ : ∃ x, x = w4.alloc (.cells #[.slice (some ⟨w.heap.size + 1 + 1 + 1, 0, none⟩) 0 0] 22) := ⟨_, rfl⟩
  obtain ⟨w6, h6⟩ : ∃ x, x = w5.alloc (.cells #[.func (.func 209) #[] #[.pointer (some ⟨w.heap.size, 0, none⟩), .pointer (some ⟨w.heap.size + 1 + 1 + 1 + 1, 0, none⟩), .pointer (some ⟨w.heap.size + 1, 0, none⟩), .pointer (some ⟨w.heap.size + 1 + 1, 0, none⟩), .pointer (some ⟨w.heap.size + 1 + 1 + 1 + 1 + 1, 0, none⟩)]] 144) := ⟨_, rfl⟩
  rw [← h1, ← h2, ← h3, ← h4, ← h5, ← h6]
  have s1 : w1.heap.size = w.heap.size + 1 := by rw [h1]; simp
  have s2 : w2.heap.size = w.heap.size + 1 + 1 := by rw [h2]; simp [s1]
  have s3 : w3.heap.size = w.heap.size + 1 + 1 + 1 := by rw [h3]; simp [s2]
  have s4 : w4.heap.size = w.heap.size + 1 + 1 + 1 + 1 := by rw [h4]; simp [s3]
  have s5 : w5.heap.size = w.heap.size + 1 + 1 + 1 + 1 + 1 := by rw [h5]; simp [s4]
  have e01 : Ext w w1 := by rw [h1]; exact (Ext.refl _).alloc _
  have e12 : Ext w1 w2 := by rw [h2]; exact (Ext.refl _).alloc _
  have e23 : Ext w2 w3 := by rw [h3]; exact (Ext.refl _).alloc _
  have e34 : Ext w3 w4 := by rw [h4]; exact (Ext.refl _).alloc _
  have e45 : Ext w4 w5 := by rw [h5]; exact (Ext.refl _).alloc _
  have e56 : Ext w5 w6 := by rw [h6]; exact (Ext.refl _).alloc _
  have B1 : Blk w1 w.heap.size 27 #[v] := by rw [h1]; exact Blk.new _ _ _
  have B2 : Blk w2 (w.heap.size + 1) 3 #[.int .i64 (a : Int)] := by rw [h2, ← s1]; exact Blk.new _ _ _
  have B3 : Blk w3 (w.heap.size + 1 + 1) 3 #[.int .i64 (m : Int)] := by rw [h3, ← s2]; exact Blk.new _ _ _
  have B5 : Blk w5 (w.heap.size + 1 + 1 + 1 + 1) 22 #[.slice (some ⟨w.heap.size + 1 + 1 + 1, 0, none⟩) 0 0] := by rw [h5, ← s4]; exact Blk.new _ _ _
  have B6 : Blk w6 (w.heap.size + 1 + 1 + 1 + 1 + 1) 144 #[.func (.func 209) #[] #[.pointer (some ⟨w.heap.size, 0, none⟩), .pointer (some ⟨w.heap.size + 1 + 1 + 1 + 1, 0, none⟩), .pointer (some ⟨w.heap.size + 1, 0, none⟩), .pointer (some ⟨w.heap.size + 1 + 1, 0, none⟩), .pointer (some ⟨w.heap.size + 1 + 1 + 1 + 1 + 1, 0, none⟩)]] := by rw [h6, ← s5]; exact Blk.new _ _ _
  have O4 : Own 3 w3 w4 (.slice (some ⟨w.heap.size + 1 + 1 + 1, 0, none⟩) 0 0) [] := by rw [h4, ← s3]; exact own_made (TI := 3) (n := 0) (by omega) (Ext.refl w3) [] rfl
  have e13 := e12.trans e23
  have e36 := e34.trans (e45.trans e56)
  have e03 := e01.trans e13
  refine (tl_any v l a m Hgr ha0 ha hm w3 w.heap.size (w.heap.size + 1 + 1 + 1 + 1) (w.heap.size + 1) (w.heap.size + 1 + 1) (w.heap.size + 1 + 1 + 1 + 1 + 1) (by omega) (by omega) _ (fun W hW => ((B1.ext e13).ext hW).cell (i := 0) rfl) (fun W hW => ((B2.ext e23).ext hW).cell (i := 0) rfl) (fun W hW => (B3.ext hW).cell (i := 0) rfl) (Lib.hid fun W hW => HH.out.ext (e03.trans hW)) rfl (ord l + 1) a 1 w6 _ [] (by omega) ha (by decide) (by simp; omega) e36 (B5.ext e56) (O4.ext (e45.trans e56)) B6).mono ?_
  rintro e w7 ⟨rfl, v7, hB7, hO7, hF7, -⟩
  rw [← He.out] at hO7
  obtain ⟨a7, c7, rfl, -⟩ := hO7.shape
  have hx7 := hB7.cell (i := 0) (v := .slice a7 (castL (tileL l a m)).length c7) rfl
  have hE7 : Ext w w7 := hF7.ext (e03.trans e36) (by omega) (fun j hj => by simp [Value.ownBlock] at hj; omega)
  go_wp2_with fail
  go_ret
  exact ⟨_, rfl, hO7.mono e03, hE7⟩
theorem FindTile_any (v : Value) (l : List Int) (a : Int) (w : World) (h : Ints w v l) :
    Calls Tryz.prog 102 #[.agg #[v], .int .i64 a] w fun e w' => e = .returned (.tuple #[.int .i64 (ftV l a), .bool (ftB l a)]) ∧ Ext w w' := by
  obtain ⟨wb, hwb⟩ : ∃ wb, wb = w.alloc (.cells #[v] 27) := ⟨_, rfl⟩
  have hE0 := (Ext.refl w).alloc (.cells #[v] 27)
  have hb := box_cell w v 27
  rw [← hwb] at hE0 hb
  have hg : ∀ W, Ext wb W → Ints W v l := fun W hW => h.ext (hE0.trans hW)
  have hE := Ext.refl wb
  have Hsz : Hid (w.heap.size + 1 = wb.heap.size) := Lib.hid (by rw [hwb]; simp [go_sem])
  have Hwb := Lib.hid hwb
  clear hwb h
  have hbx := hb wb hE
  cases hs : isSetB l a
  · have Hs := Lib.hid (ft_no (isOneB_no hs))
    go_enter Tryz.func102, Tryz.ntmps102
    go_wp2_with fail
    rw [← Hwb.out]
    go_wp2_with (first | (go_at_call 152; refine (IsSet_val _ _ _ _ (hg _ hE) (hs)).mono ?_; rintro e w' ⟨rfl, hE'⟩; replace hE := hE.trans hE'; clear hE'))
    exact bodyPost_ret (v := .tuple #[.int .i64 0, .bool false]) (by simp [results, Tryz.results102, go_sem]) rfl ⟨by rw [Hs.out.1, Hs.out.2], hE0.trans hE⟩
  · obtain ⟨n, rfl, hn, hn24, hgr⟩ := isSetB_nat hs
    by_cases h0 : n = 0
    · subst h0
      have Hs : Hid (ftB l ((0 : Nat) : Int) = false ∧ ftV l ((0 : Nat) : Int) = 0) := Lib.hid (ft_no (isOneB_zero l))
      go_enter Tryz.func102, Tryz.ntmps102
      go_wp2_with fail
      rw [← Hwb.out]
      go_wp2_with (first | (go_at_call 152; refine (IsSet_val _ _ _ _ (hg _ hE) (hs)).mono ?_; rintro e w' ⟨rfl, hE'⟩; replace hE := hE.trans hE'; clear hE'))
      exact bodyPost_ret (v := .tuple #[.int .i64 0, .bool false]) (by simp [results, Tryz.results102, go_sem]) rfl ⟨by rw [Hs.out.1, Hs.out.2], hE0.trans hE⟩
    · have h00 : ((n : Int) == 0) = false := by rw [beq_eq_false_iff_ne]; omega
      have Hgr := Lib.hid hgr
      have hone := isOneB_yes hs (by omega)
      have hcT := fun W (hW : Ext wb W) => tiles_any v l n 1 W (hg W hW) Hgr h0 hn (by omega) (by omega)
      have hlenT : (tileL l n 1).length ≤ 1 := tlS_len _ _ _ _ _ _ (by omega)
      have Ho := Lib.hid hone
      clear hone hgr h0
      rcases hT : tileL l n 1 with _ | ⟨x, L⟩
      · have Hs := Lib.hid (ft_nil hT)
        rw [hT] at hcT
        clear hT hlenT
        go_enter Tryz.func102, Tryz.ntmps102
        go_wp2_with fail
        rw [← Hwb.out]
        go_wp2_with (first | (go_at_call 152; refine (IsSet_val _ _ _ _ (hg _ hE) (hs)).mono ?_; rintro e w' ⟨rfl, hE'⟩; replace hE := hE.trans hE'; clear hE') | (go_at_call 176; refine (hcT _ hE).mono ?_; rintro e w' ⟨vT, rfl, hO, hE'⟩; replace hE := hE.trans hE'; clear hE'; obtain ⟨aT, cT, rfl, -⟩ := hO.shape; simp only [castL, List.map_nil, List.length_nil] at hO ⊢))
        exact bodyPost_ret (v := .tuple #[.int .i64 0, .bool false]) (by simp [results, Tryz.results102, go_sem]) rfl ⟨by rw [Hs.out.1, Hs.out.2], hE0.trans hE⟩
      · rw [hT] at hlenT
        have hL : L = [] := List.eq_nil_of_length_eq_zero (by simp at hlenT; simpa using hlenT)
        subst hL
        have Hs := Lib.hid (ft_yes Ho.out hT)
        rw [hT] at hcT
        clear hT hlenT
        go_enter Tryz.func102, Tryz.ntmps102
        go_wp2_with fail
        rw [← Hwb.out]
        go_wp2_with (first | (go_at_call 152; refine (IsSet_val _ _ _ _ (hg _ hE) (hs)).mono ?_; rintro e w' ⟨rfl, hE'⟩; replace hE := hE.trans hE'; clear hE') | (go_at_call 176; refine (hcT _ hE).mono ?_; rintro e w' ⟨vT, rfl, hO, hE'⟩; replace hE := hE.trans hE'; clear hE'; obtain ⟨ao, c, adr, rfl, hlen, hadr, hcell⟩ := hO.ints.op; have hix : ∀ W, (Instr.indexAt 22 (.slice ao 1 c) (.int .i64 0)).run Tryz.prog W = .ok (.pointer (some (adr 0))) W := fun W => ints_index (c := c) (n := (castL [x]).length) elI szI hadr 0 W (by simp [castL]); have hck : w'.cell? (adr 0) = some (.int .i64 (x : Int)) := hcell 0 w' (by simp [castL]) (Ext.refl _); clear hlen hadr hcell; rw [show (castL [x]).length = 1 from rfl] at hO ⊢))
        exact bodyPost_ret (v := .tuple #[.int .i64 x, .bool true]) (by simp [results, Tryz.results102, go_sem]) rfl ⟨by rw [Hs.out.1, Hs.out.2], hE0.trans hE⟩
end Go.Zz
