/- Graphs: connection sets, distances, diameters. -/
import Derived.Test.YtpjpfpmapdjnaaaGr5
import Derived.Test.YtpjpfpmapdjnaaaGr4
import Derived.Test.YtpjpfpmapdjnaaaGr2
import Derived.Deep.RegionHeld3
import Derived.Deep.RegionWith
import Derived.Deep.RegionLaw
namespace Go.Zz
open Go.RowKit Go.Proofs
set_option maxHeartbeats 400000

--%call in 91 same in_any _ _ ({0}) ({1}) _
theorem in_any (a x : Nat) (ha : a < 2 ^ 24) (hx : x ≤ 64) (w : World) :
    Calls Try.prog 91 #[.int .i64 a, .int .i64 x] w fun e w' => e = .returned (.bool (a.testBit x)) ∧ w = w' := by
  have hsh := ishr_nat (a := a) (n := x) hx
  have hbt := bit_test' (a := a) (n := x) (by omega) hx
  go_enter Try.func91, Try.ntmps91
  go_wp2_with fail
  go_ret
  exact ⟨rfl, rfl⟩
theorem in_val (a x : Nat) (ha : a < 2 ^ 24) (hx : x ≤ 64) (w : World) {b : Bool} (hb : a.testBit x = b) :
    Calls Try.prog 91 #[.int .i64 a, .int .i64 x] w fun e w' => e = .returned (.bool b) ∧ w = w' := by
  subst hb; exact in_any a x ha hx w
--%call hasV 90 ext has_val _ _ _ _ ({0}) ({1})
theorem has_any (v : Value) (l : List Int) (x : Int) (w : World) (h : Ints w v l) :
    Calls Try.prog 90 #[.agg #[v], .int .i64 x] w fun e w' => e = .returned (.bool (hasB l x)) ∧ Ext w w' := by
  obtain ⟨wb, hwb⟩ : ∃ wb, wb = w.alloc (.cells #[v] 27) := ⟨_, rfl⟩
  have hE0 := (Ext.refl w).alloc (.cells #[v] 27)
  have hb := box_cell w v 27
  rw [← hwb] at hE0 hb
  have hg : ∀ W, Ext wb W → Ints W v l := fun W hW => h.ext (hE0.trans hW)
  have hE := Ext.refl wb
  have Hsz : Hid (w.heap.size + 1 = wb.heap.size) := Lib.hid (by rw [hwb]; simp [go_sem])
  have Hwb := Lib.hid hwb
  clear hwb h
  have ho := ordF_bd l
  go_enter Try.func90, Try.ntmps90
  go_wp2_with fail
  rw [← Hwb.out]
  go_wp2_with (first | (go_at_call 26; refine (OrderOf_any _ _ _ (hg _ hE)).mono ?_; rintro e w' ⟨rfl, hE'⟩; replace hE := hE.trans hE'; clear hE') | (go_at_call 40; refine (within_any _ _ _ _).mono ?_; rintro e w' ⟨rfl, rfl⟩))
  go_ret
  exact ⟨rfl, hE0.trans hE⟩
theorem has_val (v : Value) (l : List Int) (x : Int) (w : World) (h : Ints w v l) {b : Bool} (hb : hasB l x = b) :
    Calls Try.prog 90 #[.agg #[v], .int .i64 x] w fun e w' => e = .returned (.bool b) ∧ Ext w w' := by
  subst hb; exact has_any v l x w h
--%call sOrderOf 39 ext sOrderOf_any _ _ _ ({0})
theorem sOrderOf_any (v : Value) (l : List Int) (w : World) (h : Ints w v l) :
    Calls Try.prog 39 #[.agg #[v]] w fun e w' => e = .returned (.int .i64 (ordF l)) ∧ Ext w w' := by
  obtain ⟨wb, hwb⟩ : ∃ wb, wb = w.alloc (.cells #[v] 27) := ⟨_, rfl⟩
  have hE0 := (Ext.refl w).alloc (.cells #[v] 27)
  have hb := box_cell w v 27
  rw [← hwb] at hE0 hb
  have hg : ∀ W, Ext wb W → Ints W v l := fun W hW => h.ext (hE0.trans hW)
  have hE := Ext.refl wb
  have Hsz : Hid (w.heap.size + 1 = wb.heap.size) := Lib.hid (by rw [hwb]; simp [go_sem])
  have Hwb := Lib.hid hwb
  clear hwb h
  cases hgr : isGrp l
  · have Ho := Lib.hid (ordF_f hgr)
    go_enter Try.func39, Try.ntmps39
    go_wp2_with fail
    rw [← Hwb.out]
    go_wp2_with (first | (go_at_call 10; refine (sIsGroup_any _ _ _ (hg _ hE)).mono ?_; rintro e w' ⟨rfl, hE'⟩; replace hE := hE.trans hE'; clear hE'))
    go_ret
    exact ⟨ret_int Ho.out.symm, hE0.trans hE⟩
  · have Ho := Lib.hid (ordF_t hgr)
    have Hgr := Lib.hid hgr
    go_enter Try.func39, Try.ntmps39
    go_wp2_with fail
    rw [← Hwb.out]
    go_wp2_with (first | (go_at_call 10; refine (sIsGroup_any _ _ _ (hg _ hE)).mono ?_; rintro e w' ⟨rfl, hE'⟩; replace hE := hE.trans hE'; clear hE') | (go_at_call 14; refine (l2Order_any _ _ _ (hg _ hE) (Hgr)).mono ?_; rintro e w' ⟨rfl, hE'⟩; replace hE := hE.trans hE'; clear hE'))
    go_ret
    exact ⟨ret_int Ho.out.symm, hE0.trans hE⟩
--%call l2IsV 64 ext l2Is_val _ _ _ _ ({0}) ({1})
theorem l2Is_any (v : Value) (l : List Int) (x : Int) (w : World) (h : Ints w v l) :
    Calls Try.prog 64 #[.agg #[v], .int .i64 x] w fun e w' => e = .returned (.bool (hasB l x)) ∧ Ext w w' := by
  obtain ⟨wb, hwb⟩ : ∃ wb, wb = w.alloc (.cells #[v] 27) := ⟨_, rfl⟩
  have hE0 := (Ext.refl w).alloc (.cells #[v] 27)
  have hb := box_cell w v 27
  rw [← hwb] at hE0 hb
  have hg : ∀ W, Ext wb W → Ints W v l := fun W hW => h.ext (hE0.trans hW)
  have hE := Ext.refl wb
  have Hsz : Hid (w.heap.size + 1 = wb.heap.size) := Lib.hid (by rw [hwb]; simp [go_sem])
  have Hwb := Lib.hid hwb
  clear hwb h
  have ho := ordF_bd l
  by_cases h0 : 0 ≤ x
  · by_cases h1 : x < ordF l
    · have Hh : Hid (hasB l x = true) := Lib.hid (inB_t.2 (by omega))
      go_enter Try.func64, Try.ntmps64
      go_wp2_with fail
      rw [← Hwb.out]
      go_wp2_with (first | (go_at_call 39; refine (sOrderOf_any _ _ _ (hg _ hE)).mono ?_; rintro e w' ⟨rfl, hE'⟩; replace hE := hE.trans hE'; clear hE'))
      go_ret
      exact ⟨ret_bool (by rw [Hh.out]), hE0.trans hE⟩
    · have Hh : Hid (hasB l x = false) := Lib.hid (inB_f.2 (by omega))
      have h1' : decide (x < ordF l) = false := by simp; omega
      go_enter Try.func64, Try.ntmps64
      go_wp2_with fail
      rw [← Hwb.out]
      go_wp2_with (first | (go_at_call 39; refine (sOrderOf_any _ _ _ (hg _ hE)).mono ?_; rintro e w' ⟨rfl, hE'⟩; replace hE := hE.trans hE'; clear hE'))
      go_ret
      exact ⟨ret_bool (by rw [Hh.out]), hE0.trans hE⟩
  · have Hh : Hid (hasB l x = false) := Lib.hid (inB_f.2 (by omega))
    have h0' : decide (0 ≤ x) = false := by simp; omega
    go_enter Try.func64, Try.ntmps64
    go_wp2_with fail
    rw [← Hwb.out]
    go_wp2_with (first | (go_at_call 39; refine (sOrderOf_any _ _ _ (hg _ hE)).mono ?_; rintro e w' ⟨rfl, hE'⟩; replace hE := hE.trans hE'; clear hE'))
    go_ret
    exact ⟨ret_bool (by rw [Hh.out]), hE0.trans hE⟩
theorem l2Is_val (v : Value) (l : List Int) (x : Int) (w : World) (h : Ints w v l) {b : Bool} (hb : hasB l x = b) :
    Calls Try.prog 64 #[.agg #[v], .int .i64 x] w fun e w' => e = .returned (.bool b) ∧ Ext w w' := by
  subst hb; exact l2Is_any v l x w h

theorem bit_zero_t {n : Nat} (h2 : n < 2 ^ 24) (h : n.testBit 0 = true) : iand (n : Int) 1 = 1 := by
  rw [Nat.testBit_zero] at h; rw [iand_one (by omega), of_decide_eq_true h]; rfl
theorem bit_zero_f {n : Nat} (h2 : n < 2 ^ 24) (h : n.testBit 0 = false) : iand (n : Int) 1 = 0 := by
  rw [Nat.testBit_zero] at h; rw [iand_one (by omega)]; have := of_decide_eq_false h; have h3 : n % 2 = 0 := by omega
  rw [h3]; rfl

end Go.Zz

/- Boundaries and least expansions. -/
namespace Go.Zz
open Go.RowKit Go.Proofs
set_option maxHeartbeats 400000

theorem gcd_step (a b : Nat) : Nat.gcd b (a % b) = Nat.gcd a b := by rw [Nat.gcd_comm b, ← Nat.gcd_rec, Nat.gcd_comm]
theorem modc (a b : Nat) : ((a % b : Nat) : Int) = (a : Int) % (b : Int) := Int.natCast_emod a b
--%call gcd 45 ext gcd_any _ _ ({0}) ({1}) _
theorem gcd_any (a b : Nat) (ha : a ≤ 16777216) (hb : b ≤ 16777216) (w : World) :
    Calls Try.prog 45 #[.int .i64 a, .int .i64 b] w fun e w' => e = .returned (.int .i64 (Nat.gcd a b : Nat)) ∧ Ext w w' := by
  have hE := Ext.refl w
  go_enter Try.func45, Try.ntmps45
  go_wp2_with fail
  go_loopw [0, 1] (fun xv yv wr => ∃ x y : Nat, x ≤ 16777216 ∧ y ≤ 16777216 ∧ Nat.gcd x y = Nat.gcd a b ∧ xv = .int .i64 x ∧ yv = .int .i64 y ∧ Ext w wr) (fun _ yv _ => (intOf yv).toNat)
  case atStart => exact ⟨a, b, ha, hb, rfl, rfl, rfl, hE⟩
  case round =>
    clear hE
    obtain ⟨x, y, hx, hy, hg, rfl, rfl, hE⟩ := hrel
    have Hg := Lib.hid hg
    clear hg
    by_cases h0 : y = 0
    · subst h0
      go_wp2_with fail
      go_ret
      exact ⟨ret_int (by rw [← Hg.out, Nat.gcd_zero_right]), hE⟩
    · have hne : ((y : Int) != 0) = true := by simp; omega
      have hne2 : ((y : Int) == 0) = false := by simp; omega
      have hpos : 0 < (y : Int) := by omega
      have hm := Nat.mod_lt x (show 0 < y by omega)
      have hmc := modc x y
      have hmb : (x : Int) % (y : Int) ≤ 16777216 := by rw [← hmc]; omega
      have Hs := Lib.hid (gcd_step x y)
      go_wp2_with fail
      (refine wp_region_lat (w) (by kernel_rfl) (by kernel_rfl) hE ?_); (repeat (go_big_quiet_step (first | fail))); (refine wpQuiet_nil ?_); (intro W hE'); (replace hE := lat_of hE'); (clear hE')
      go_wp2_with fail
      go_roundw
      case rel => exact ⟨y, x % y, hy, by omega, by rw [Hs.out, Hg.out], rfl, by rw [hmc], hE⟩
      case measure => (simp only [intOf]; rw [← hmc, Int.toNat_natCast, Int.toNat_natCast]; exact hm)
--%call l11Divisor 37 ext l11Divisor_any _ _ ({0}) ({1}) _
theorem l11Divisor_any (a b : Nat) (ha : a ≤ 16777216) (hb : b ≤ 16777216) (w : World) :
    Calls Try.prog 37 #[.int .i64 a, .int .i64 b] w fun e w' => e = .returned (.int .i64 (Nat.gcd a b : Nat)) ∧ Ext w w' := by
  have hE := Ext.refl w
  go_enter Try.func37, Try.ntmps37
  go_wp2_with fail
  go_loopw [0, 1] (fun xv yv wr => ∃ x y : Nat, x ≤ 16777216 ∧ y ≤ 16777216 ∧ Nat.gcd x y = Nat.gcd a b ∧ xv = .int .i64 x ∧ yv = .int .i64 y ∧ Ext w wr) (fun _ yv _ => (intOf yv).toNat)
  case atStart => exact ⟨a, b, ha, hb, rfl, rfl, rfl, hE⟩
  case round =>
    clear hE
    obtain ⟨x, y, hx, hy, hg, rfl, rfl, hE⟩ := hrel
    have Hg := Lib.hid hg
    clear hg
    by_cases h0 : y = 0
    · subst h0
      go_wp2_with fail
      go_ret
      exact ⟨ret_int (by rw [← Hg.out, Nat.gcd_zero_right]), hE⟩
    · have hne2 : ((y : Int) == 0) = false := by simp; omega
      have hpos : 0 < (y : Int) := by omega
      have hm := Nat.mod_lt x (show 0 < y by omega)
      have hmc := modc x y
      have hmb : (x : Int) % (y : Int) ≤ 16777216 := by rw [← hmc]; omega
      have Hs := Lib.hid (gcd_step x y)
      go_wp2_with fail
      go_roundw
      case rel => exact ⟨y, x % y, hy, by omega, by rw [Hs.out, Hg.out], rfl, by rw [hmc], hE⟩
      case measure => (simp only [intOf]; rw [← hmc, Int.toNat_natCast, Int.toNat_natCast]; exact hm)

/-- joined pairs with one element in a set, the first in a list -/
def bdTo (l : List Int) (a x : Nat) (L : List Nat) : Nat := L.foldl (fun n y => n + cnt (andN (shiftF l a y) x)) 0
theorem bdTo_snoc (l : List Int) (a x : Nat) (L : List Nat) (y : Nat) : bdTo l a x (L ++ [y]) = bdTo l a x L + cnt (andN (shiftF l a y) x) := by unfold bdTo; rw [List.foldl_append]; rfl
theorem bdFold (l : List Int) (a x : Nat) : ∀ (L : List Nat) (s : Nat), L.foldl (fun n y => n + cnt (andN (shiftF l a y) x)) s ≤ s + 24 * L.length
  | [], s => by simp
  | y :: L, s => by
    rw [List.foldl_cons, List.length_cons]
    have := bdFold l a x L (s + cnt (andN (shiftF l a y) x))
    have := cnt_le (andN (shiftF l a y) x)
    omega
theorem bdTo_le (l : List Int) (a x : Nat) (L : List Nat) : bdTo l a x L ≤ 24 * L.length := by have := bdFold l a x L 0; unfold bdTo; omega
def bdN (l : List Int) (a x : Nat) : Nat := bdTo l a x (elems x)
theorem bdN_le (l : List Int) (a x : Nat) : bdN l a x ≤ 576 := by have := bdTo_le l a x (elems x); have := elems_len x; unfold bdN; omega
theorem andN_cast {a b : Nat} (ha : a < 2 ^ 24) : (a : Int) - ((a &&& b : Nat) : Int) = ((andN a b : Nat) : Int) := by
  have := andN_sub 24 a b ha; omega
end Go.Zz

/- Orders: primes, exponents. -/
namespace Go.Zz
open Go.RowKit Go.Proofs
set_option maxHeartbeats 400000
set_option maxRecDepth 4000

def primeB (n : Nat) : Bool := decide (2 ≤ n ∧ ∀ d, d < n → 2 ≤ d → n % d ≠ 0)
theorem primeB_no {n d : Nat} (h : n % d = 0) (h2 : 2 ≤ d) (hd : d < n) : primeB n = false :=
  decide_eq_false fun hh => hh.2 d hd h2 h
theorem primeB_end {n : Nat} (h : ∀ d, d < n → 2 ≤ d → n % d ≠ 0) : primeB n = decide (2 ≤ n) := by
  unfold primeB
  by_cases hn : 2 ≤ n
  · rw [decide_eq_true hn]; exact decide_eq_true ⟨hn, h⟩
  · rw [decide_eq_false hn]; exact decide_eq_false fun hh => hn hh.1
/-- the exponent of the first parts -/
def expK (l : List Int) : Nat → Nat
  | 0 => 1
  | k + 1 => expK l k / Nat.gcd (expK l k) (nth l k).toNat * (nth l k).toNat
def expN (l : List Int) : Nat := expK l l.length
theorem expK_bd {l : List Int} (h : isGrp l = true) : ∀ k, k ≤ l.length → 1 ≤ expK l k ∧ expK l k ≤ 24 ^ k := by
  intro k
  induction k with
  | zero => intro _; exact ⟨Nat.le_refl _, Nat.le_refl _⟩
  | succ k ih =>
    intro hk
    obtain ⟨h1, h2⟩ := ih (by omega)
    have hn := isGrp_nth h (show k < l.length by omega)
    have ho : 2 ≤ (nth l k).toNat ∧ (nth l k).toNat ≤ 24 := by omega
    show 1 ≤ expK l k / Nat.gcd (expK l k) (nth l k).toNat * (nth l k).toNat ∧ _
    have hg0 : 0 < Nat.gcd (expK l k) (nth l k).toNat := Nat.gcd_pos_of_pos_right _ (by omega)
    have hgl : Nat.gcd (expK l k) (nth l k).toNat ≤ expK l k := Nat.gcd_le_left _ (by omega)
    have hq : 0 < expK l k / Nat.gcd (expK l k) (nth l k).toNat := Nat.div_pos hgl hg0
    have hq2 := Nat.div_le_self (expK l k) (Nat.gcd (expK l k) (nth l k).toNat)
    refine ⟨Nat.mul_pos hq (by omega), ?_⟩
    rw [Nat.pow_succ]
    exact Nat.mul_le_mul (Nat.le_trans hq2 h2) ho.2
theorem expK_le {l : List Int} (h : isGrp l = true) {k : Nat} (hk : k ≤ l.length) : 1 ≤ expK l k ∧ expK l k ≤ 13824 := by
  obtain ⟨h1, h2⟩ := expK_bd h k hk
  have h3 := isGrp_len h
  exact ⟨h1, Nat.le_trans h2 (Nat.le_trans (Nat.pow_le_pow_right (by decide) (Nat.le_trans hk h3)) (by decide))⟩
/-- the first multiple of e that o divides -/
theorem mult_iff {e o j : Nat} (he : 0 < e) : j * e % o = 0 ↔ o / Nat.gcd e o ∣ j := by
  have hg : 0 < Nat.gcd e o := Nat.gcd_pos_of_pos_left _ he
  rw [← Nat.dvd_iff_mod_eq_zero]
  constructor
  · intro h
    have h1 : Nat.Coprime (o / Nat.gcd e o) (e / Nat.gcd e o) := (Nat.coprime_div_gcd_div_gcd hg).symm
    refine h1.dvd_of_dvd_mul_right ?_
    refine Nat.dvd_of_mul_dvd_mul_right hg ?_
    rw [Nat.div_mul_cancel (Nat.gcd_dvd_right e o), Nat.mul_assoc, Nat.div_mul_cancel (Nat.gcd_dvd_left e o)]
    exact h
  · rintro ⟨q, rfl⟩
    refine ⟨q * (e / Nat.gcd e o), ?_⟩
    have e1 := Nat.div_mul_cancel (Nat.gcd_dvd_left e o)
    have e2 := Nat.div_mul_cancel (Nat.gcd_dvd_right e o)
    conv => lhs; rhs; rw [← e1]
    conv => rhs; lhs; rw [← e2]
    simp only [Nat.mul_comm, Nat.mul_left_comm]
theorem mult_val {e o : Nat} : o / Nat.gcd e o * e = e / Nat.gcd e o * o := by
  have e1 := Nat.div_mul_cancel (Nat.gcd_dvd_left e o)
  have e2 := Nat.div_mul_cancel (Nat.gcd_dvd_right e o)
  conv => lhs; rhs; rw [← e1]
  conv => rhs; rhs; rw [← e2]
  simp only [Nat.mul_comm, Nat.mul_left_comm]
--%call sOrderOfN 39 ext sOrderOf_grp _ _ _ ({0}) ({1})
theorem sOrderOf_grp (v : Value) (l : List Int) (w : World) (h : Ints w v l) (Hgr : Hid (isGrp l = true)) :
    Calls Try.prog 39 #[.agg #[v]] w fun e w' => e = .returned (.int .i64 (ord l : Int)) ∧ Ext w w' := by
  rw [← ordF_t Hgr.out]; exact sOrderOf_any v l w h
theorem IsPrimeOrder_grp (v : Value) (l : List Int) (w : World) (h : Ints w v l) (Hgr : Hid (isGrp l = true)) :
    Calls Try.prog 31 #[.agg #[v]] w fun e w' => e = .returned (.bool (primeB (ord l))) ∧ Ext w w' := by
  obtain ⟨wb, hwb⟩ : ∃ wb, wb = w.alloc (.cells #[v] 27) := ⟨_, rfl⟩
  have hE0 := (Ext.refl w).alloc (.cells #[v] 27)
  have hb := box_cell w v 27
  rw [← hwb] at hE0 hb
  have hg : ∀ W, Ext wb W → Ints W v l := fun W hW => h.ext (hE0.trans hW)
  have hE := Ext.refl wb
  have Hsz : Hid (w.heap.size + 1 = wb.heap.size) := Lib.hid (by rw [hwb]; simp [go_sem])
  have Hwb := Lib.hid hwb
  clear hwb h
  have hbx := hb wb hE
  have hob := ord_bd Hgr.out
  go_enter Try.func31, Try.ntmps31
  go_wp2_with fail
  rw [← Hwb.out]
  go_wp2_with (first | (go_at_call 26; refine (OrderOf_grp _ _ _ (hg _ hE) (Hgr)).mono ?_; rintro e w' ⟨rfl, hE'⟩; replace hE := hE.trans hE'; clear hE'))
  clear hb hg hbx
  obtain ⟨N, hNe⟩ : ∃ N, ord l = N := ⟨_, rfl⟩
  rw [hNe] at hob ⊢
  have Hne := Lib.hid hNe
  clear hNe
  go_loop [4] (fun i => ∃ d : Nat, 2 ≤ d ∧ i = .int .i64 d ∧ ∀ m, m < d → m < N → 2 ≤ m → N % m ≠ 0) (fun i => N - (intOf i).toNat)
  case atStart => exact ⟨2, by omega, rfl, fun m h1 h2 h3 => by omega⟩
  case round =>
    obtain ⟨d, hd, rfl, hm⟩ := hrel
    have Hm := Lib.hid hm
    clear hm
    by_cases hlt : d < N
    · have hmc := modc N d
      have hm2 := Nat.mod_lt N (show 0 < d by omega)
      have hne2 : ((d : Int) == 0) = false := by simp; omega
      have hpos : 0 < (d : Int) := by omega
      have hltI : (d : Int) < (N : Int) := by omega
      by_cases h0 : N % d = 0
      · have h0I : ((N : Int) % (d : Int) == 0) = true := by rw [← hmc, h0]; rfl
        clear hmc
        go_wp2_with fail
        go_ret
        exact ⟨ret_bool (by rw [Hne.out]; exact (primeB_no h0 hd hlt).symm), hE0.trans hE⟩
      · have h0I : ((N : Int) % (d : Int) == 0) = false := by rw [← hmc, beq_eq_false_iff_ne]; omega
        clear hmc
        go_wp2_with fail
        go_round
        case rel => exact ⟨d + 1, by omega, by go_num, fun m h1 h2 h3 => by
          rcases Nat.lt_or_ge m d with q | q
          · exact Hm.out m q h2 h3
          · obtain rfl : m = d := by omega
            exact h0⟩
        case measure => (simp [intOf]; omega)
    · have Hp := Lib.hid (primeB_end fun m h1 h2 => Hm.out m (by omega) h1 h2)
      by_cases hn : 2 ≤ N
      · have hI : (2 : Int) ≤ (N : Int) := by omega
        go_wp2_with fail
        go_ret
        exact ⟨ret_bool (by rw [Hne.out, Hp.out]; first | exact decide_eq_decide.2 (by omega) | exact (decide_eq_true hn).symm | exact (decide_eq_false hn).symm), hE0.trans hE⟩
      · have hI : ¬ (2 : Int) ≤ (N : Int) := by omega
        go_wp2_with fail
        go_ret
        exact ⟨ret_bool (by rw [Hne.out, Hp.out]; first | exact decide_eq_decide.2 (by omega) | exact (decide_eq_true hn).symm | exact (decide_eq_false hn).symm), hE0.trans hE⟩
theorem sIsPrimeOrder_grp (v : Value) (l : List Int) (w : World) (h : Ints w v l) (Hgr : Hid (isGrp l = true)) :
    Calls Try.prog 19 #[.agg #[v]] w fun e w' => e = .returned (.bool (primeB (ord l))) ∧ Ext w w' := by
  obtain ⟨wb, hwb⟩ : ∃ wb, wb = w.alloc (.cells #[v] 27) := ⟨_, rfl⟩
  have hE0 := (Ext.refl w).alloc (.cells #[v] 27)
  have hb := box_cell w v 27
  rw [← hwb] at hE0 hb
  have hg : ∀ W, Ext wb W → Ints W v l := fun W hW => h.ext (hE0.trans hW)
  have hE := Ext.refl wb
  have Hsz : Hid (w.heap.size + 1 = wb.heap.size) := Lib.hid (by rw [hwb]; simp [go_sem])
  have Hwb := Lib.hid hwb
  clear hwb h
  have hbx := hb wb hE
  have hob := ord_bd Hgr.out
  go_enter Try.func19, Try.ntmps19
  go_wp2_with fail
  rw [← Hwb.out]
  go_wp2_with (first | (go_at_call 39; refine (sOrderOf_grp _ _ _ (hg _ hE) (Hgr)).mono ?_; rintro e w' ⟨rfl, hE'⟩; replace hE := hE.trans hE'; clear hE'))
  clear hb hg hbx
  obtain ⟨N, hNe⟩ : ∃ N, ord l = N := ⟨_, rfl⟩
  rw [hNe] at hob ⊢
  have Hne := Lib.hid hNe
  clear hNe
  go_loop [4] (fun i => ∃ d : Nat, 2 ≤ d ∧ i = .int .i64 d ∧ ∀ m, m < d → m < N → 2 ≤ m → N % m ≠ 0) (fun i => N - (intOf i).toNat)
  case atStart => exact ⟨2, by omega, rfl, fun m h1 h2 h3 => by omega⟩
  case round =>
    obtain ⟨d, hd, rfl, hm⟩ := hrel
    have Hm := Lib.hid hm
    clear hm
    by_cases hlt : d < N
    · have hmc := modc N d
      have hm2 := Nat.mod_lt N (show 0 < d by omega)
      have hne2 : ((d : Int) == 0) = false := by simp; omega
      have hpos : 0 < (d : Int) := by omega
      have hltI : (d : Int) < (N : Int) := by omega
      by_cases h0 : N % d = 0
      · have h0I : ((N : Int) % (d : Int) == 0) = true := by rw [← hmc, h0]; rfl
        clear hmc
        go_wp2_with fail
        go_ret
        exact ⟨ret_bool (by rw [Hne.out]; exact (primeB_no h0 hd hlt).symm), hE0.trans hE⟩
      · have h0I : ((N : Int) % (d : Int) == 0) = false := by rw [← hmc, beq_eq_false_iff_ne]; omega
        clear hmc
        go_wp2_with fail
        go_round
        case rel => exact ⟨d + 1, by omega, by go_num, fun m h1 h2 h3 => by
          rcases Nat.lt_or_ge m d with q | q
          · exact Hm.out m q h2 h3
          · obtain rfl : m = d := by omega
            exact h0⟩
        case measure => (simp [intOf]; omega)
    · have Hp := Lib.hid (primeB_end fun m h1 h2 => Hm.out m (by omega) h1 h2)
      by_cases hn : 2 ≤ N
      · have hI : (2 : Int) ≤ (N : Int) := by omega
        go_wp2_with fail
        go_ret
        exact ⟨ret_bool (by rw [Hne.out, Hp.out]; first | exact decide_eq_decide.2 (by omega) | exact (decide_eq_true hn).symm | exact (decide_eq_false hn).symm), hE0.trans hE⟩
      · have hI : ¬ (2 : Int) ≤ (N : Int) := by omega
        go_wp2_with fail
        go_ret
        exact ⟨ret_bool (by rw [Hne.out, Hp.out]; first | exact decide_eq_decide.2 (by omega) | exact (decide_eq_true hn).symm | exact (decide_eq_false hn).symm), hE0.trans hE⟩
theorem ExponentOf_grp (v : Value) (l : List Int) (w : World) (h : Ints w v l) (Hgr : Hid (isGrp l = true)) :
    Calls Try.prog 27 #[.agg #[v]] w fun e w' => e = .returned (.int .i64 (expN l : Nat)) ∧ Ext w w' := by
  have hop := h.op
  have hE0 := (Ext.refl w).alloc (.cells #[v] 27)
  have hE := Ext.refl (w.alloc (.cells #[v] 27))
  have hb := box_cell w v 27
  have hg : ∀ W, Ext (w.alloc (.cells #[v] 27)) W → Ints W v l := fun W hW => h.ext (hE0.trans hW)
  clear h
  obtain ⟨ao, c, adr, rfl, hlen, hadr, hcell⟩ := hop
  have hix := ints_index (c := c) elI szI hadr
  clear hadr
  have hgr := Hgr.out
  have hl3 := isGrp_len hgr
  go_enter Try.func27, Try.ntmps27
  go_wp2_with (first | (go_at_call 21; refine (IsGroup_any _ _ _ (hg _ hE)).mono ?_; rintro e w' ⟨rfl, hE'⟩; replace hE := hE.trans hE'; clear hE'))
  clear hgr
  go_loopw [3, 12] (fun n i wr => ∃ k : Nat, k ≤ l.length ∧ i = .int .i64 k ∧ n = .int .i64 (expK l k : Nat) ∧ Ext (w.alloc (.cells #[.slice ao l.length c] 27)) wr) (fun _ i _ => l.length - (intOf i).toNat)
  case atStart => exact ⟨0, by omega, rfl, rfl, hE⟩
  case round =>
    clear hE
    obtain ⟨k, hk, rfl, rfl, hE⟩ := hrel
    by_cases hlt : k < l.length
    · have hck := hcell k _ hlt (hE0.trans hE)
      have hn := isGrp_nth Hgr.out hlt
      have Hs : Hid (expK l (k + 1) = expK l k / Nat.gcd (expK l k) (nth l k).toNat * (nth l k).toNat) := Lib.hid rfl
      have hs2 := expK_le Hgr.out (show k + 1 ≤ l.length by omega)
      obtain ⟨he1, he2⟩ := expK_le Hgr.out hk
      obtain ⟨o, ho⟩ : ∃ o : Nat, nth l k = (o : Int) := ⟨(nth l k).toNat, by omega⟩
      rw [ho] at hck hn
      have Hs' : Hid (expK l (k + 1) = expK l k / Nat.gcd (expK l k) o * o) := Lib.hid (by rw [Hs.out, ho, Int.toNat_natCast])
      rw [Hs'.out] at hs2
      clear Hs ho
      have hg0 : 0 < Nat.gcd (expK l k) o := Nat.gcd_pos_of_pos_left _ (by omega)
      obtain ⟨e, he⟩ : ∃ e, expK l k = e := ⟨_, rfl⟩
      rw [he] at he1 he2 hs2 hg0 Hs' ⊢
      have d1 : ((e / Nat.gcd e o : Nat) : Int) = (e : Int) / (Nat.gcd e o : Int) := Int.natCast_ediv _ _
      have D1 := Lib.hid d1
      have hq := Nat.div_le_self e (Nat.gcd e o)
      have hqI : 0 ≤ (e : Int) / (Nat.gcd e o : Int) ∧ (e : Int) / (Nat.gcd e o : Int) ≤ 13824 := ⟨by rw [← d1]; exact Int.natCast_nonneg _, by rw [← d1]; exact Int.ofNat_le.2 (Nat.le_trans hq he2)⟩
      have hne2 : ((Nat.gcd e o : Int) == 0) = false := by simp; omega
      have hpos : 0 < (Nat.gcd e o : Int) := by omega
      have hmm : -1000000 ≤ (e : Int) / (Nat.gcd e o : Int) * (o : Int) ∧ (e : Int) / (Nat.gcd e o : Int) * (o : Int) ≤ 1000000 := ⟨by rw [← d1, ← Int.natCast_mul]; exact Int.le_trans (by decide) (Int.natCast_nonneg _), by rw [← d1, ← Int.natCast_mul]; exact Int.ofNat_le.2 (Nat.le_trans hs2.2 (by decide))⟩
      have Hm : Hid ((e : Int) / (Nat.gcd e o : Int) * (o : Int) = ((expK l (k + 1) : Nat) : Int)) := Lib.hid (by rw [Hs'.out, Int.natCast_mul, d1])
      clear d1 hs2 he
      go_wp2_with (go_at_call 45; refine (gcd_any _ _ (by omega) (by omega) _).mono ?_; rintro e2 w2 ⟨rfl, hE2⟩)
      go_roundw
      case rel => exact ⟨k + 1, by omega, by go_num, by rw [Hm.out], hE.trans hE2⟩
      case measure => (simp [intOf]; omega)
    · have hkl : k = l.length := by omega
      subst hkl
      go_wp2_with fail
      go_ret
      exact ⟨rfl, hE0.trans hE⟩
end Go.Zz

/- Exponents of the reference. -/
namespace Go.Zz
open Go.RowKit Go.Proofs
set_option maxHeartbeats 400000
set_option maxRecDepth 4000

theorem sExponentOf_grp (v : Value) (l : List Int) (w : World) (h : Ints w v l) (Hgr : Hid (isGrp l = true)) :
    Calls Try.prog 15 #[.agg #[v]] w fun e w' => e = .returned (.int .i64 (expN l : Nat)) ∧ Ext w w' := by
  have hop := h.op
  have hE0 := (Ext.refl w).alloc (.cells #[v] 27)
  have hE := Ext.refl (w.alloc (.cells #[v] 27))
  have hb := box_cell w v 27
  have hg : ∀ W, Ext (w.alloc (.cells #[v] 27)) W → Ints W v l := fun W hW => h.ext (hE0.trans hW)
  clear h
  obtain ⟨ao, c, adr, rfl, hlen, hadr, hcell⟩ := hop
  have hix := ints_index (c := c) elI szI hadr
  clear hadr
  have hgr := Hgr.out
  have hl3 := isGrp_len hgr
  go_enter Try.func15, Try.ntmps15
  go_wp2_with (go_at_call 10; refine (sIsGroup_any _ _ _ (hg _ hE)).mono ?_; rintro e w1 ⟨rfl, hE1⟩; have hb1 := hb _ (hE.trans hE1))
  clear hgr
  go_loop [3, 4] (fun n i => ∃ k : Nat, k ≤ l.length ∧ i = .int .i64 k ∧ n = .int .i64 (expK l k : Nat)) (fun _ i => l.length - (intOf i).toNat)
  case atStart => exact ⟨0, by omega, rfl, rfl⟩
  case round =>
    obtain ⟨k, hk, rfl, rfl⟩ := hrel
    by_cases hlt : k < l.length
    · have hck := hcell k _ hlt (hE0.trans hE1)
      have hn := isGrp_nth Hgr.out hlt
      have Hs : Hid (expK l (k + 1) = expK l k / Nat.gcd (expK l k) (nth l k).toNat * (nth l k).toNat) := Lib.hid rfl
      have hs2 := expK_le Hgr.out (show k + 1 ≤ l.length by omega)
      obtain ⟨he1, he2⟩ := expK_le Hgr.out hk
      obtain ⟨o, ho⟩ : ∃ o : Nat, nth l k = (o : Int) := ⟨(nth l k).toNat, by omega⟩
      rw [ho] at hck hn
      have Hs' : Hid (expK l (k + 1) = expK l k / Nat.gcd (expK l k) o * o) := Lib.hid (by rw [Hs.out, ho, Int.toNat_natCast])
      rw [Hs'.out] at hs2
      clear Hs ho
      obtain ⟨e, he⟩ : ∃ e, expK l k = e := ⟨_, rfl⟩
      rw [he] at he1 he2 hs2 Hs' ⊢
      have Hmi : Hid (∀ j, j * e % o = 0 ↔ o / Nat.gcd e o ∣ j) := Lib.hid fun j => mult_iff (by omega)
      have hJ0 : 0 < o / Nat.gcd e o := Nat.div_pos (Nat.gcd_le_right _ (by omega)) (Nat.gcd_pos_of_pos_left _ (by omega))
      have Hv : Hid (o / Nat.gcd e o * e = expK l (k + 1)) := Lib.hid (by rw [Hs'.out]; exact mult_val)
      have hJe : o / Nat.gcd e o * e ≤ 13824 := by rw [Hv.out, Hs'.out]; exact hs2.2
      clear hs2 he
      obtain ⟨J, hJ⟩ : ∃ J, o / Nat.gcd e o = J := ⟨_, rfl⟩
      rw [hJ] at hJ0 Hv hJe Hmi
      clear hJ Hs'
      have hne2 : ((o : Int) == 0) = false := by simp; omega
      have hpos : 0 < (o : Int) := by omega
      go_wp2_with fail
      go_loop [5] (fun x => ∃ j z : Nat, 1 ≤ j ∧ j ≤ J ∧ z = j * e ∧ z ≤ 13824 ∧ x = .int .i64 z) (fun x => 13824 - (intOf x).toNat)
      case atStart => exact ⟨1, e, by omega, by omega, by omega, by omega, rfl⟩
      case round =>
        obtain ⟨j, z, hj1, hj2, hz, hz2, rfl⟩ := hrel
        have Hz := Lib.hid hz
        have hzc := modc z o
        by_cases h0 : z % o = 0
        · have hjJ : j = J := by
            have := Nat.le_of_dvd (by omega) ((Hmi.out j).1 (by rw [← hz]; exact h0))
            omega
          have h0I : ((z : Int) % (o : Int) == 0) = true := by rw [← hzc, h0]; rfl
          clear hzc hz
          go_wp2_with fail
          go_round
          case rel => exact ⟨k + 1, by omega, by go_num, by rw [← Hv.out, Hz.out, hjJ]⟩
          case measure => (simp [intOf]; omega)
        · have hjJ : j ≠ J := fun hh => h0 (by rw [hz]; exact (Hmi.out j).2 (by rw [hh]; exact Nat.dvd_refl _))
          have h0I : ((z : Int) % (o : Int) == 0) = false := by rw [← hzc, beq_eq_false_iff_ne]; omega
          have hz3 : z + e = (j + 1) * e := by rw [hz, Nat.succ_mul]
          have hz4 : (j + 1) * e ≤ J * e := Nat.mul_le_mul_right e (by omega)
          have hz5 : z + e ≤ 13824 := by rw [hz3]; exact Nat.le_trans hz4 hJe
          have Hz3 := Lib.hid hz3
          clear hzc hz hz3 hz4
          go_wp2_with fail
          go_round
          case rel => exact ⟨j + 1, z + e, by omega, by omega, Hz3.out, hz5, by go_num⟩
          case measure => (simp [intOf]; omega)
    · have hkl : k = l.length := by omega
      subst hkl
      go_wp2_with fail
      go_ret
      exact ⟨rfl, hE0.trans hE1⟩
end Go.Zz

/- The table of sums: how often each element is a sum. Plain laws. -/
namespace Go.Zz
open Go.RowKit Go.Proofs
set_option maxHeartbeats 400000

/-- one more at a place -/
def bump (t : List Int) (z : Nat) : List Int := t.set z (nth t z + 1)
theorem bump_len (t : List Int) (z : Nat) : (bump t z).length = t.length := by simp [bump]
def tabIn (l : List Int) (x : Nat) (t : List Int) (L : List Nat) : List Int := L.foldl (fun t y => bump t (addF l x y)) t
def tabOut (l : List Int) (b : Nat) (t : List Int) (L : List Nat) : List Int := L.foldl (fun t x => tabIn l x t (elems b)) t
theorem tabIn_snoc (l : List Int) (x : Nat) (t : List Int) (L : List Nat) (y : Nat) : tabIn l x t (L ++ [y]) = bump (tabIn l x t L) (addF l x y) := by
  unfold tabIn; rw [List.foldl_append]; rfl
theorem tabOut_snoc (l : List Int) (b : Nat) (t : List Int) (L : List Nat) (x : Nat) : tabOut l b t (L ++ [x]) = tabIn l x (tabOut l b t L) (elems b) := by
  unfold tabOut; rw [List.foldl_append]; rfl
theorem nth_bump (t : List Int) (z i : Nat) (hz : z < t.length) : nth (bump t z) i = if i = z then nth t z + 1 else nth t i := by
  unfold bump nth
  simp only [List.getD_eq_getElem?_getD, List.getElem?_set]
  by_cases h : i = z
  · subst h; simp [hz]
  · have h' : ¬ z = i := fun e => h e.symm
    simp [h, h']
/-- every count lies between 0 and B -/
def Upto (t : List Int) (B : Int) : Prop := ∀ i, 0 ≤ nth t i ∧ nth t i ≤ B
theorem Upto.bump {t : List Int} {B : Int} (h : Upto t B) {z : Nat} (hz : z < t.length) : Upto (bump t z) (B + 1) := fun i => by
  rw [nth_bump t z i hz]
  have h1 := h z
  have h2 := h i
  split <;> omega
theorem Upto.zeros (n : Nat) : Upto (List.replicate n 0) 0 := fun i => by
  unfold nth
  simp only [List.getD_eq_getElem?_getD, List.getElem?_replicate]
  split <;> simp
def tabF (l : List Int) (a b : Int) : List Int := if isSetB l a && isSetB l b then tabOut l b.toNat (List.replicate (ord l) 0) (elems a.toNat) else []
theorem tabF_no {l : List Int} {a b : Int} (h : (isSetB l a && isSetB l b) = false) : tabF l a b = [] := by unfold tabF; rw [h]; rfl
theorem tabF_yes {l : List Int} {a b : Nat} (h : (isSetB l a && isSetB l b) = true) : tabF l a b = tabOut l b (List.replicate (ord l) 0) (elems a) := by unfold tabF; rw [h]; rfl
end Go.Zz

/- The table of sums. -/
namespace Go.Zz
open Go.RowKit Go.Proofs
set_option maxHeartbeats 400000

theorem Own.cellAt {TI : TypeId} {w0 w : World} {g n c : Nat} {l : List Int} (h : Own TI w0 w (.slice (some ⟨g, 0, none⟩) n c) l) (hn : l.length = n) {i : Nat} (hi : i < n) :
    w.cell? ⟨g, i, none⟩ = some (.int .i64 (nth l i)) ∧ w.frozen? ⟨g, i, none⟩ = false := by
  obtain ⟨ao', c', hv, -, -, hs⟩ := h.shape
  obtain ⟨g', hg1, hc1, hf1⟩ := hs i (by omega)
  simp only [Value.slice.injEq] at hv
  obtain ⟨hv1, -, -⟩ := hv
  rw [← hv1] at hg1
  simp only [Option.some.injEq, Addr.mk.injEq, and_true] at hg1
  obtain rfl := hg1
  exact ⟨hc1, hf1⟩
theorem Own.row {TI : TypeId} {w0 w : World} {ao : Option Addr} {n c : Nat} {l : List Int} (h : Own TI w0 w (.slice ao n c) l) (hn : l.length = n) (hp : 0 < n) :
    ∃ g, ao = some ⟨g, 0, none⟩ ∧ w0.heap.size ≤ g ∧ g < w.heap.size := by
  obtain ⟨ao', c', hv, -, hb, hs⟩ := h.shape
  obtain ⟨g', hg1, hc1, hf1⟩ := hs 0 (by omega)
  simp only [Value.slice.injEq] at hv
  obtain ⟨hv1, -, -⟩ := hv
  subst hv1
  obtain ⟨g, e, h1, h2⟩ := hb _ hg1
  exact ⟨g, by rw [hg1, e], h1, h2⟩
theorem Own.nshape {TI : TypeId} {w0 w : World} {v : Value} {L : List Nat} (h : Own TI w0 w v (castL L)) : ∃ (ao : Option Addr) (c : Nat), v = .slice ao L.length c := by
  obtain ⟨ao, c, e, -, -, -⟩ := h.shape
  exact ⟨ao, c, by rw [e, castL_len]⟩
theorem row_index (g n c : Nat) : ∀ (i : Nat) W, i < n → (Instr.indexAt 22 (.slice (some ⟨g, 0, none⟩) n c) (.int .i64 (i : Int))).run Try.prog W = .ok (.pointer (some ⟨g, i, none⟩)) W := by
  intro i W hi
  rw [run_indexAt_slice (h := elI), if_pos (by omega), szI]
  simp [Result.andThen, Addr.add_lit]
theorem castL_nth {L : List Nat} {i : Nat} : nth (castL L) i = (nthN L i : Int) := nth_castL L i
theorem tabIn_len (l : List Int) (x : Nat) : ∀ (L : List Nat) (t : List Int), (tabIn l x t L).length = t.length
  | [], t => rfl
  | y :: L, t => by
    show (tabIn l x (bump t (addF l x y)) L).length = t.length
    rw [tabIn_len l x L, bump_len]
theorem tabOut_len (l : List Int) (b : Nat) : ∀ (L : List Nat) (t : List Int), (tabOut l b t L).length = t.length
  | [], t => rfl
  | x :: L, t => by
    show (tabOut l b (tabIn l x t (elems b)) L).length = t.length
    rw [tabOut_len l b L, tabIn_len]
theorem tabIn_upto {l : List Int} (hg : isGrp l = true) (x : Nat) : ∀ (L : List Nat) (t : List Int) (B : Int), t.length = ord l → Upto t B → Upto (tabIn l x t L) (B + L.length)
  | [], t, B, _, h => by simpa [tabIn] using h
  | y :: L, t, B, hl, h => by
    have hz : addF l x y < t.length := by rw [hl]; exact addF_lt l (isGrp_ords hg) x y
    have := tabIn_upto hg x L (bump t (addF l x y)) (B + 1) (by rw [bump_len]; exact hl) (h.bump hz)
    show Upto (tabIn l x (bump t (addF l x y)) L) _
    rw [List.length_cons]
    intro i; have := this i; push_cast at this ⊢; omega
theorem tabOut_upto {l : List Int} (hg : isGrp l = true) (b : Nat) : ∀ (L : List Nat) (t : List Int) (B : Int), t.length = ord l → Upto t B → Upto (tabOut l b t L) (B + 24 * L.length)
  | [], t, B, _, h => by simpa [tabOut] using h
  | x :: L, t, B, hl, h => by
    have h1 := tabIn_upto hg x (elems b) t B hl h
    have h2 := tabOut_upto hg b L (tabIn l x t (elems b)) (B + (elems b).length) (by rw [tabIn_len]; exact hl) h1
    have h3 := elems_len b
    show Upto (tabOut l b (tabIn l x t (elems b)) L) _
    rw [List.length_cons]
    intro i; have := h2 i; push_cast at this ⊢; omega
/-- the count that is to be raised fits -/
theorem tab_fits {l : List Int} (hg : isGrp l = true) {b x : Nat} {L M : List Nat} (hL : L.length ≤ 24) (hM : M.length ≤ 24) (i : Nat) :
    0 ≤ nth (tabIn l x (tabOut l b (List.replicate (ord l) 0) L) M) i ∧ nth (tabIn l x (tabOut l b (List.replicate (ord l) 0) L) M) i ≤ 1000 := by
  have h1 := tabOut_upto hg b L _ 0 (by simp) (Upto.zeros (ord l))
  have h2 := tabIn_upto hg x M _ _ (by rw [tabOut_len]; simp) h1
  have := h2 i
  omega

end Go.Zz

/- EqualGroups, MeetingBound. -/
namespace Go.Zz
open Go.RowKit Go.Proofs
set_option maxHeartbeats 400000



end Go.Zz

/- Kept: the laws' helpers, EqualKept. -/
namespace Go.Zz
open Go.RowKit Go.Proofs
set_option maxHeartbeats 400000

/-- a value of type Kept -/
def IsK (w : World) (c : Value) (l : List Int) (n : Int) (m : List Int) : Prop := ∃ v u, c = .agg #[v, .int .i64 n, u] ∧ Ints w v l ∧ Ints w u m
theorem IsK.ext {w w' : World} {c : Value} {l m : List Int} {n : Int} (h : IsK w c l n m) (hE : Ext w w') : IsK w' c l n m := by
  obtain ⟨v, u, rfl, h1, h2⟩ := h; exact ⟨v, u, rfl, h1.ext hE, h2.ext hE⟩
def szK (l m : List Int) (left : Int) : Int := if szL l left < 0 then -1 else szL m (szL l left)
theorem szL_cases (l : List Int) {left : Int} (h : 0 ≤ left) : szL l left = -1 ∨ (0 ≤ szL l left ∧ szL l left ≤ left) := by unfold szL; split <;> omega


def eqK (l m : List Int) (n : Int) (l' m' : List Int) (n' : Int) : Bool := decide (l = l' ∧ n = n' ∧ m = m')
end Go.Zz

/- Plain laws: what the table of sums holds, and how it changes. -/
namespace Go.Zz
open Go.RowKit Go.Proofs
set_option maxHeartbeats 400000

def bumps (t : List Int) (S : List Nat) : List Int := S.foldl bump t
theorem bumps_len : ∀ (S : List Nat) (t : List Int), (bumps t S).length = t.length
  | [], _ => rfl
  | z :: S, t => by show (bumps (bump t z) S).length = _; rw [bumps_len S, bump_len]
theorem nth_bumps : ∀ (S : List Nat) (t : List Int) (z : Nat), (∀ x ∈ S, x < t.length) → nth (bumps t S) z = nth t z + (S.count z : Int)
  | [], t, z, _ => by simp [bumps]
  | x :: S, t, z, h => by
    show nth (bumps (bump t x) S) z = _
    rw [nth_bumps S _ z (fun y hy => by rw [bump_len]; exact h y (by simp [hy])), nth_bump t x z (h x (by simp)), List.count_cons]
    by_cases e : z = x
    · subst e; simp; omega
    · have e' : ¬ x = z := fun h => e h.symm
      simp [e, e']
def sumsL (l : List Int) (L M : List Nat) : List Nat := L.flatMap (fun x => M.map (fun y => addF l x y))
theorem bumps_append (t : List Int) (A B : List Nat) : bumps t (A ++ B) = bumps (bumps t A) B := by unfold bumps; rw [List.foldl_append]
theorem tabIn_bumps (l : List Int) (x : Nat) (t : List Int) (L : List Nat) : tabIn l x t L = bumps t (L.map (fun y => addF l x y)) := by
  unfold tabIn bumps; rw [List.foldl_map]
theorem tabOut_bumps (l : List Int) (b : Nat) : ∀ (L : List Nat) (t : List Int), tabOut l b t L = bumps t (sumsL l L (elems b))
  | [], _ => rfl
  | x :: L, t => by
    show tabOut l b (tabIn l x t (elems b)) L = _
    rw [tabOut_bumps l b L, tabIn_bumps]
    unfold sumsL; rw [List.flatMap_cons, bumps_append]
def tabN (l : List Int) (a b : Nat) : List Int := tabOut l b (List.replicate (ord l) 0) (elems a)
theorem tabN_len (l : List Int) (a b : Nat) : (tabN l a b).length = ord l := by unfold tabN; rw [tabOut_bumps, bumps_len]; simp
theorem sumsL_lt {l : List Int} (h : isGrp l = true) {L M : List Nat} : ∀ x ∈ sumsL l L M, x < ord l := by
  intro x hx
  obtain ⟨u, _, hv⟩ := List.mem_flatMap.1 hx
  obtain ⟨y, _, rfl⟩ := List.mem_map.1 hv
  exact addF_lt l (isGrp_ords h) _ _
theorem nth_zeros (n i : Nat) : nth (List.replicate n 0) i = 0 := by
  unfold nth
  simp only [List.getD_eq_getElem?_getD, List.getElem?_replicate]
  split <;> simp
theorem nth_tabN {l : List Int} (h : isGrp l = true) (a b z : Nat) : nth (tabN l a b) z = ((sumsL l (elems a) (elems b)).count z : Int) := by
  unfold tabN
  rw [tabOut_bumps, nth_bumps _ _ _ (by intro x hx; rw [List.length_replicate]; exact sumsL_lt h x hx), nth_zeros]; simp
/-- how often z is a sum -/
def cN (l : List Int) (L M : List Nat) (z : Nat) : Nat := (sumsL l L M).count z
theorem cN_cons (l : List Int) (x : Nat) (L M : List Nat) (z : Nat) : cN l (x :: L) M z = (M.map (fun y => addF l x y)).count z + cN l L M z := by
  unfold cN sumsL; rw [List.flatMap_cons, List.count_append]
theorem cN_cons_right (l : List Int) (x : Nat) (M : List Nat) (z : Nat) : ∀ L : List Nat, cN l L (x :: M) z = (L.map (fun u => addF l u x)).count z + cN l L M z
  | [] => by simp [cN, sumsL]
  | u :: L => by
    rw [cN_cons, cN_cons, cN_cons_right l x M z L, List.map_cons, List.map_cons, List.count_cons, List.count_cons]; omega
theorem cN_perm {l : List Int} {L L' M M' : List Nat} (hL : L.Perm L') (hM : M.Perm M') (z : Nat) : cN l L M z = cN l L' M' z := by
  have h1 : cN l L M z = cN l L' M z := (hL.flatMap_right _).count_eq z
  rw [h1]
  have h2 : ∀ K : List Nat, cN l K M z = cN l K M' z := by
    intro K
    induction K with
    | nil => rfl
    | cons u K ih => rw [cN_cons, cN_cons, ih, (hM.map _).count_eq z]
  exact h2 L'
theorem elems_put {a x : Nat} (hx : x < 24) (h : a.testBit x = false) : (elems (a ||| 2 ^ x)).Perm (x :: elems a) := by
  rw [List.perm_ext_iff_of_nodup (elems_nodup _) (List.nodup_cons.2 ⟨(fun e => absurd (mem_elems.1 e).2 (by rw [h]; simp)), elems_nodup a⟩)]
  intro i
  rw [mem_elems, List.mem_cons, mem_elems, Nat.testBit_or, Nat.testBit_two_pow]
  by_cases e : i = x
  · subst e; simp [hx]
  · have e' : ¬ x = i := fun h => e h.symm
    simp [e, e']
theorem cN_put {l : List Int} {a x : Nat} (hx : x < 24) (h : a.testBit x = false) (z : Nat) :
    cN l (elems (a ||| 2 ^ x)) (elems (a ||| 2 ^ x)) z = cN l (elems a) (elems a) z + 2 * ((elems a).map (fun y => addF l x y)).count z + (if addF l x x = z then 1 else 0) := by
  have hp := elems_put hx h
  rw [cN_perm hp hp, cN_cons, cN_cons_right, List.map_cons, List.count_cons]
  have e : (elems a).map (fun u => addF l u x) = (elems a).map (fun y => addF l x y) := by
    apply List.map_congr_left; intro u _; exact addF_comm l u x
  rw [e]
  by_cases e2 : addF l x x = z
  · simp [e2]; omega
  · simp [e2]; omega
/-- an amount is added at a place -/
def bumpN (t : List Int) (z : Nat) (m : Int) : List Int := t.set z (nth t z + m)
theorem bumpN_len (t : List Int) (z : Nat) (m : Int) : (bumpN t z m).length = t.length := by simp [bumpN]
theorem nth_bumpN (t : List Int) (z i : Nat) (m : Int) (hz : z < t.length) : nth (bumpN t z m) i = if i = z then nth t z + m else nth t i := by
  unfold bumpN nth
  simp only [List.getD_eq_getElem?_getD, List.getElem?_set]
  by_cases h : i = z
  · subst h; simp [hz]
  · have h' : ¬ z = i := fun e => h e.symm
    simp [h, h']
def chgL (l : List Int) (x : Nat) (n : Int) (t : List Int) (L : List Nat) : List Int := L.foldl (fun t y => bumpN t (addF l x y) (2 * n)) t
theorem chgL_snoc (l : List Int) (x : Nat) (n : Int) (t : List Int) (L : List Nat) (y : Nat) : chgL l x n t (L ++ [y]) = bumpN (chgL l x n t L) (addF l x y) (2 * n) := by
  unfold chgL; rw [List.foldl_append]; rfl
theorem chgL_len (l : List Int) (x : Nat) (n : Int) : ∀ (L : List Nat) (t : List Int), (chgL l x n t L).length = t.length
  | [], _ => rfl
  | y :: L, t => by show (chgL l x n (bumpN t (addF l x y) (2 * n)) L).length = _; rw [chgL_len l x n L, bumpN_len]
theorem nth_chgL {l : List Int} (h : isGrp l = true) (x : Nat) (n : Int) (z : Nat) : ∀ (L : List Nat) (t : List Int), t.length = ord l → nth (chgL l x n t L) z = nth t z + 2 * n * ((L.map (fun y => addF l x y)).count z : Int)
  | [], t, _ => by simp [chgL]
  | y :: L, t, hl => by
    have hz : addF l x y < t.length := by rw [hl]; exact addF_lt l (isGrp_ords h) _ _
    show nth (chgL l x n (bumpN t (addF l x y) (2 * n)) L) z = _
    rw [nth_chgL h x n z L _ (by rw [bumpN_len]; exact hl), nth_bumpN _ _ _ _ hz, List.map_cons, List.count_cons]
    by_cases e : z = addF l x y
    · subst e; simp [Int.mul_add]; omega
    · have e' : ¬ addF l x y = z := fun h => e h.symm
      simp [e, e']
def chgF (l : List Int) (x : Nat) (n : Int) (t : List Int) (L : List Nat) : List Int := bumpN (chgL l x n t L) (addF l x x) n
theorem chgF_len (l : List Int) (x : Nat) (n : Int) (t : List Int) (L : List Nat) : (chgF l x n t L).length = t.length := by unfold chgF; rw [bumpN_len, chgL_len]
theorem nth_chgF {l : List Int} (h : isGrp l = true) (x : Nat) (n : Int) (z : Nat) (L : List Nat) (t : List Int) (hl : t.length = ord l) :
    nth (chgF l x n t L) z = nth t z + 2 * n * ((L.map (fun y => addF l x y)).count z : Int) + (if addF l x x = z then n else 0) := by
  have hz : addF l x x < (chgL l x n t L).length := by rw [chgL_len, hl]; exact addF_lt l (isGrp_ords h) _ _
  unfold chgF
  rw [nth_bumpN _ _ _ _ hz]
  by_cases e : z = addF l x x
  · subst e; rw [nth_chgL h x n _ L t hl]; simp
  · have e' : ¬ addF l x x = z := fun h => e h.symm
    rw [if_neg e, if_neg e', nth_chgL h x n z L t hl]; omega
theorem tab_put {l : List Int} (h : isGrp l = true) {a x : Nat} (hx : x < 24) (hb : a.testBit x = false) : chgF l x 1 (tabN l a a) (elems a) = tabN l (a ||| 2 ^ x) (a ||| 2 ^ x) := by
  refine ext_nth (by rw [chgF_len, tabN_len, tabN_len]) fun z _ => ?_
  rw [nth_chgF h x 1 z _ _ (tabN_len l a a), nth_tabN h, nth_tabN h]
  have := cN_put (l := l) hx hb z
  unfold cN at this
  rw [this]
  push_cast
  by_cases e : addF l x x = z <;> simp [e]
theorem put_back {a x : Nat} (hb : a.testBit x = true) : andN a (2 ^ x) ||| 2 ^ x = a := by
  apply Nat.eq_of_testBit_eq; intro i
  rw [Nat.testBit_or, andN_bit, Nat.testBit_two_pow]
  by_cases e : x = i
  · subst e; simp [hb]
  · simp [e]
theorem andN_self_bit (a x : Nat) : (andN a (2 ^ x)).testBit x = false := by rw [andN_bit, Nat.testBit_two_pow]; simp
theorem tab_take {l : List Int} (h : isGrp l = true) {a x : Nat} (hx : x < 24) (hb : a.testBit x = true) : chgF l x (-1) (tabN l a a) (elems (andN a (2 ^ x))) = tabN l (andN a (2 ^ x)) (andN a (2 ^ x)) := by
  refine ext_nth (by rw [chgF_len, tabN_len, tabN_len]) fun z _ => ?_
  rw [nth_chgF h x (-1) z _ _ (tabN_len l a a), nth_tabN h, nth_tabN h]
  have := cN_put (l := l) hx (andN_self_bit a x) z
  rw [put_back hb] at this
  unfold cN at this
  rw [this]
  push_cast
  by_cases e : addF l x x = z <;> simp [e] <;> omega
theorem andN_none {a x : Nat} (hb : a.testBit x = false) : andN a (2 ^ x) = a := by
  apply Nat.eq_of_testBit_eq; intro i
  rw [andN_bit, Nat.testBit_two_pow]
  by_cases e : x = i
  · subst e; simp [hb]
  · simp [e]
/-- the places of positive numbers below k -/
def posTo (t : List Int) (k : Nat) : Nat := bset ((List.range k).filter (fun i => decide (0 < nth t i)))
theorem posTo_zero (t : List Int) : posTo t 0 = 0 := rfl
theorem posTo_yes {t : List Int} {k : Nat} (h : 0 < nth t k) : posTo t (k + 1) = posTo t k ||| 2 ^ k := by
  unfold posTo; rw [List.range_succ, List.filter_append]; simp only [List.filter_cons, List.filter_nil, h, decide_true, if_true]; exact bset_snoc _ _
theorem posTo_no {t : List Int} {k : Nat} (h : ¬ 0 < nth t k) : posTo t (k + 1) = posTo t k := by
  unfold posTo; rw [List.range_succ, List.filter_append]; simp [h]
theorem posTo_lt (t : List Int) (k : Nat) : posTo t k < 2 ^ k := by
  refine bset_lt fun x hx => ?_
  exact List.mem_range.1 (List.mem_filter.1 hx).1
theorem posTo_tab {l : List Int} (h : isGrp l = true) (a b : Nat) : posTo (tabN l a b) (ord l) = sumF l a b := by
  apply Nat.eq_of_testBit_eq; intro z
  refine bool_eq_of ?_
  unfold posTo
  rw [testBit_bset, decide_eq_true_iff, List.mem_filter, decide_eq_true_iff, nth_tabN h, testBit_sumF, List.mem_range]
  have e : 0 < ((sumsL l (elems a) (elems b)).count z : Int) ↔ z ∈ sumsL l (elems a) (elems b) := by
    rw [← List.count_pos_iff]; omega
  rw [e]
  constructor
  · rintro ⟨_, hz⟩
    obtain ⟨x, hx, hv⟩ := List.mem_flatMap.1 hz
    obtain ⟨y, hy, rfl⟩ := List.mem_map.1 hv
    exact ⟨x, y, (mem_elems.1 hx).1, (mem_elems.1 hx).2, (mem_elems.1 hy).1, (mem_elems.1 hy).2, rfl⟩
  · rintro ⟨x, y, h1, h2, h3, h4, rfl⟩
    exact ⟨addF_lt l (isGrp_ords h) _ _, List.mem_flatMap.2 ⟨x, mem_elems.2 ⟨h1, h2⟩, List.mem_map.2 ⟨y, mem_elems.2 ⟨h3, h4⟩, rfl⟩⟩⟩
/-- the sum of the squares of the first k -/
def sqTo (t : List Int) : Nat → Int
  | 0 => 0
  | k + 1 => sqTo t k + nth t k * nth t k
theorem sqTo_succ (t : List Int) (k : Nat) : sqTo t (k + 1) = sqTo t k + nth t k * nth t k := rfl
theorem sums_len (L M : List Nat) (l : List Int) : (sumsL l L M).length = L.length * M.length := by
  unfold sumsL
  induction L with
  | nil => simp
  | cons x L ih => rw [List.flatMap_cons, List.length_append, ih, List.length_map, List.length_cons, Nat.succ_mul]; omega
theorem tabN_bd {l : List Int} (h : isGrp l = true) (a b z : Nat) : 0 ≤ nth (tabN l a b) z ∧ nth (tabN l a b) z ≤ 576 := by
  rw [nth_tabN h]
  have h1 := List.count_le_length (a := z) (l := sumsL l (elems a) (elems b))
  rw [sums_len] at h1
  have h2 : (elems a).length * (elems b).length ≤ 24 * 24 := Nat.mul_le_mul (elems_len a) (elems_len b)
  omega
theorem sq_bd {x : Int} (h0 : 0 ≤ x) (h : x ≤ 576) : 0 ≤ x * x ∧ x * x ≤ 331776 :=
  ⟨Int.mul_nonneg h0 h0, by have := Int.mul_le_mul h h h0 (by omega : (0:Int) ≤ 576); omega⟩
theorem sqTo_bd {l : List Int} (h : isGrp l = true) (a b : Nat) : ∀ k, 0 ≤ sqTo (tabN l a b) k ∧ sqTo (tabN l a b) k ≤ 331776 * k
  | 0 => by simp [sqTo]
  | k + 1 => by
    have ih := sqTo_bd h a b k
    obtain ⟨h1, h2⟩ := tabN_bd h a b k
    have := sq_bd h1 h2
    rw [sqTo_succ]; push_cast; omega
theorem tabF_N {l : List Int} {a b : Nat} (h : (isSetB l a && isSetB l b) = true) : tabF l a b = tabN l a b := tabF_yes h
/-- whether counts are those that are kept -/
def keptB (l : List Int) (n : Int) (m : List Int) : Bool := isSetB l n && decide (m = tabF l n n)
theorem keptB_no {l : List Int} {n : Int} {m : List Int} (h : isSetB l n = false) : keptB l n m = false := by unfold keptB; rw [h]; rfl
theorem keptB_yes {l : List Int} {n : Int} {m : List Int} (h : isSetB l n = true) : keptB l n m = decide (m = tabF l n n) := by unfold keptB; rw [h]; rfl
theorem keptB_nat {l : List Int} {n : Int} {m : List Int} (h : keptB l n m = true) : ∃ a : Nat, n = a ∧ a < 2 ^ ord l ∧ a < 2 ^ 24 ∧ isGrp l = true ∧ m = tabN l a a ∧ isSetB l a = true := by
  unfold keptB at h
  obtain ⟨h1, h2⟩ := Bool.and_eq_true_iff.1 h
  obtain ⟨a, rfl, h3, h4, h5⟩ := isSetB_nat h1
  exact ⟨a, rfl, h3, h4, h5, by rw [of_decide_eq_true h2, tabF_N (by rw [h1]; rfl)], h1⟩
def engF (l : List Int) (n : Int) (m : List Int) : Int := if keptB l n m then sqTo m (ord l) else -1
theorem engF_no {l : List Int} {n : Int} {m : List Int} (h : keptB l n m = false) : engF l n m = -1 := by unfold engF; rw [h]; rfl
theorem engF_yes {l : List Int} {n : Int} {m : List Int} (h : keptB l n m = true) : engF l n m = sqTo m (ord l) := by unfold engF; rw [if_pos h]
def sukF (l : List Int) (n : Int) (m : List Int) : Int := if keptB l n m then (sumF l n.toNat n.toNat : Int) else -1
theorem sukF_no {l : List Int} {n : Int} {m : List Int} (h : keptB l n m = false) : sukF l n m = -1 := by unfold sukF; rw [h]; rfl
theorem sukF_yes {l : List Int} {a : Nat} {m : List Int} (h : keptB l a m = true) : sukF l a m = (sumF l a a : Int) := by unfold sukF; rw [if_pos h]; rfl
end Go.Zz

/- The table of sums of the reference; kept counts. -/
namespace Go.Zz
open Go.RowKit Go.Proofs
set_option maxHeartbeats 400000

theorem lat_cell {w : World} {p : Addr} {x : Value} (h : w.cell? p = some x) (U : World) : (Lat w U).cell? p = some x := (lat_ext w U).cell h
end Go.Zz

/- Kept counts: IsKept. -/
namespace Go.Zz
open Go.RowKit Go.Proofs
set_option maxHeartbeats 400000

end Go.Zz

/- Results that lie in memory: the block of a result, and what is stored there. -/
namespace Go.Zz
open Go.RowKit Go.Proofs
set_option maxHeartbeats 400000

/-- what a cell holds, closed to simp -/
def At (W : World) (a : Addr) : Value := (W.cell? a).getD (.int .i64 0)
/-- the first n cells of a block are there and may be written -/
def Res (W : World) (r n : Nat) : Prop := ∀ i, i < n → W.cell? ⟨r, i, none⟩ = some (At W ⟨r, i, none⟩) ∧ W.frozen? ⟨r, i, none⟩ = false
theorem At_of {W : World} {a : Addr} {v : Value} (h : W.cell? a = some v) : At W a = v := by unfold At; rw [h]; rfl
theorem Res.ext {W W' : World} {r n : Nat} (h : Res W r n) (hE : Ext W W') : Res W' r n := fun i hi => by
  obtain ⟨h1, h2⟩ := h i hi
  have h3 := hE.cell h1
  exact ⟨by rw [At_of h3]; exact h3, by rw [Below.frozen hE (World.block_lt_of_cell? W _ h1), h2]⟩
theorem Res.drew {W : World} {r n : Nat} (h : Res W r n) : Res W.drew r n := h.ext ((Ext.refl W).drew)
theorem Blk.res {W : World} {r : Nat} {T : TypeId} {cs : Array Value} (h : Blk W r T cs) {n : Nat} (hn : n ≤ cs.size) : Res W r n := fun i hi => by
  have h1 : W.cell? ⟨r, i, none⟩ = some (cs[i]'(by omega)) := h.cell (by simp)
  exact ⟨by rw [At_of h1]; exact h1, h.free i⟩
theorem Res.setCell {W : World} {r n : Nat} (h : Res W r n) (p : Addr) (x : Value) : Res (W.setCell p x) r n := fun i hi => by
  obtain ⟨h1, h2⟩ := h i hi
  obtain ⟨v', hv⟩ := cell?_setCell_some (w := W) (p := p) (x := x) h1
  exact ⟨by rw [At_of hv]; exact hv, by rw [World.frozen?_setCell, h2]⟩
theorem Blk.new' {w : World} {T : TypeId} {cs : Array Value} {b : Nat} (h : w.heap.size = b) : Blk (w.alloc (.cells cs T)) b T cs := by subst h; exact Blk.new _ _ _
theorem Blk.free_of {W : World} {r : Nat} {T : TypeId} {cs : Array Value} (h : Blk W r T cs) : ∀ i, W.frozen? ⟨r, i, none⟩ = false := h.free
theorem Calls.sh {P : Program} {f : FuncId} {args : Array Value} {TI : TypeId} {w : World} {L : List Int} (h : Calls P f args w fun e w' => ∃ v, e = .returned v ∧ Own TI w w' v L ∧ Ext w w') :
    Calls P f args w fun e w' => ∃ ao c, e = .returned (.slice ao L.length c) ∧ Own TI w w' (.slice ao L.length c) L ∧ Ext w w' :=
  h.mono fun e w' ⟨v, he, hO, hE⟩ => by
    obtain ⟨ao, c, rfl, -⟩ := hO.shape
    exact ⟨ao, c, he, hO, hE⟩
/-- append([]int{}, xs...) as a step of a region that draws its order -/
theorem step_copy {P : Program} {ops : Array Oper} {o : Oper} {a : Act} {w : World} {K : Act → World → Prop} {Q : Exit → Act → World → Prop} {E : Prop} {T TI : TypeId} (hT : IntSl P T TI)
    (hg : o.guard = none) (s x : Operand) (hop : o.op = Op.call { callee := Callee.builtin Builtin.append, args := #[s, x], argTypes := #[T, T] })
    (g : Nat) (u : Value) (m : List Int) (hs : a.eval s = .slice (some ⟨g, 0, none⟩) 0 0) (hx : a.eval x = u) (hB : Blk w g TI #[]) (hI : Ints w u m) (w0 : World) (h0 : w0.heap.size ≤ g) (hE : Ext w0 w)
    (hK : ∀ ao c w', Own TI w0 w' (.slice ao m.length c) m → Ext w w' → K (a.put o.dst (.slice ao m.length c)) w') :
    if Region.wanted o (yielded ops a.tmps) = true then Oper.wp P o a w K Q else E := by
  have hw : Region.wanted o (yielded ops a.tmps) = true := by simp [Region.wanted, hg]
  rw [if_pos hw]
  obtain ⟨i, hi, hz, hs1, hby⟩ := hT.info
  have hown : w.ownsRow w0.heap.size TI 1 (.slice (some ⟨g, 0, none⟩) 0 0) 0 [] := by
    have hB' : w.heap[g]? = some (.cells #[] TI (0, 0)) := hB
    exact ⟨by simp, Or.inr ⟨g, 0, #[], rfl, h0, hB', Nat.le_refl _, Nat.zero_le _, by simp, by simp⟩⟩
  obtain ⟨ao, c, rfl, hmc, hml, hc⟩ := hI
  have key : m = [] → Oper.wp P o a w K Q := by
    intro hm
    subst hm
    have hrun2 : (Builtin.append_ #[T, T] o.type #[.slice (some ⟨g, 0, none⟩) 0 0, .slice ao 0 c]).run P w = .ok (.slice (some ⟨g, 0, none⟩) 0 0) w := by
      have hrun := run_append_owned_none (P := P) w w0.heap.size T o.type TI i 1 hT.und hi (.slice (some ⟨g, 0, none⟩) 0 0) 0 [] hown
      rw [← hrun]; cases ao <;> simp [Builtin.append_, run_underlying hT.und, sizeOf, typeInfo, hi, Builtin.lenOf, Builtin.firstCells, go_sem]
    unfold Oper.wp
    simp [execOp, hop, resolve, invoke, builtin, hs, hx, hrun2, Result.andThen]
    exact hK (some ⟨g, 0, none⟩) 0 _ ⟨by simpa using hown, by simp⟩ (Ext.refl w)
  by_cases hm : m = []
  · exact key hm
  · have hpos : 0 < m.length := Nat.pos_of_ne_zero (fun e => hm (List.eq_nil_of_length_eq_zero e))
    cases ao with
    | none => obtain ⟨_, h, _⟩ := hc 0 hpos; cases h
    | some ad =>
      obtain ⟨v', w', hrun, r1, r2⟩ := run_append_arg_grows (P := P) (w := w) T o.type TI i (.int .i64 0) 1 8 hT.und hi hz hs1 hby rfl (by omega) ⟨g, 0, none⟩ 0 0 [] (by simp) (by simp) ad m.length c (m.map (Value.int .i64)) (by simp) (by
        intro j u hu
        have hj : j < m.length := by have := (List.getElem?_eq_some_iff.1 hu).1; simpa using this
        obtain ⟨a', ha', hc'⟩ := hc j hj
        cases ha'
        rw [hc', ← hu, nth_get _ _ hj]; simp [hj]) (by omega) (by unfold maxLen; omega) (by omega)
      unfold Oper.wp
      simp [execOp, hop, resolve, invoke, builtin, hs, hx, hrun, Result.andThen]
      have hO' : Own TI w w' v' m := ⟨by simpa using r1, hml⟩
      obtain ⟨ao', c', rfl, -⟩ := hO'.shape
      exact hK ao' c' w' (hO'.mono hE) ((Ext.refl w).grown r2 (by simp))
end Go.Zz

/- Marks in what is owned: groups. -/
namespace Go.Zz
open Go.RowKit Go.Proofs
/-- what lies in another block stays -/
theorem Own.kept {TI : TypeId} {w0 w w' : World} {v : Value} {l : List Int} {row : Option Nat} (h : Own TI w0 w v l) (hg : w.grownBy w' row) (hne : v.ownBlock = none ∨ v.ownBlock ≠ row) : Own TI w0 w' v l :=
  ⟨h.1.kept hg hne, h.2⟩
theorem blk_ne {TI : TypeId} {a b c d : World} {u v : Value} {l m : List Int} (h : Own TI a b u l) (k : Own TI c d v m) (hs : b.heap.size ≤ c.heap.size) : u.ownBlock = none ∨ u.ownBlock ≠ v.ownBlock := by
  cases hu : u.ownBlock with
  | none => exact Or.inl rfl
  | some i =>
    refine Or.inr fun e => ?_
    have h1 := (h.blk i hu).2
    have h2 := (k.blk i e.symm).1
    omega
theorem blk_ne' {TI : TypeId} {a b c d : World} {u v : Value} {l m : List Int} (h : Own TI a b u l) (k : Own TI c d v m) (hs : d.heap.size ≤ a.heap.size) : u.ownBlock = none ∨ u.ownBlock ≠ v.ownBlock := by
  cases hu : u.ownBlock with
  | none => exact Or.inl rfl
  | some i =>
    refine Or.inr fun e => ?_
    have h1 := (h.blk i hu).1
    have h2 := (k.blk i e.symm).2
    omega
end Go.Zz

/- Kept counts that are made new. -/
namespace Go.Zz
open Go.RowKit Go.Proofs
set_option maxHeartbeats 1000000
set_option maxRecDepth 20000

/-- a value of type Kept whose slices are owned, apart from each other -/
def OwnK2 (w0 w : World) (c : Value) (l : List Int) (n : Int) (m : List Int) : Prop :=
  ∃ v u, c = .agg #[v, .int .i64 n, u] ∧ Own 3 w0 w v l ∧ Own 3 w0 w u m ∧ (v.ownBlock = none ∨ v.ownBlock ≠ u.ownBlock)
theorem OwnK2.isK {w0 w : World} {c : Value} {l m : List Int} {n : Int} (h : OwnK2 w0 w c l n m) : IsK w c l n m := by
  obtain ⟨v, u, rfl, h1, h2, _⟩ := h; exact ⟨v, u, rfl, h1.ints, h2.ints⟩
theorem OwnK2.none (w0 w : World) : OwnK2 w0 w (.agg #[.slice none 0 0, .int .i64 0, .slice none 0 0]) [] 0 [] :=
  ⟨_, _, rfl, Own.nil _ _ _, Own.nil _ _ _, Or.inl rfl⟩
theorem OwnK2.mono {w0 w1 w : World} {c : Value} {l m : List Int} {n : Int} (h : OwnK2 w1 w c l n m) (hE : Ext w0 w1) : OwnK2 w0 w c l n m := by
  obtain ⟨v, u, rfl, h1, h2, h3⟩ := h; exact ⟨v, u, rfl, h1.mono hE, h2.mono hE, h3⟩
theorem OwnK2.ext {w0 w w' : World} {c : Value} {l m : List Int} {n : Int} (h : OwnK2 w0 w c l n m) (hE : Ext w w') : OwnK2 w0 w' c l n m := by
  obtain ⟨v, u, rfl, h1, h2, h3⟩ := h; exact ⟨v, u, rfl, h1.ext hE, h2.ext hE, h3⟩
def nkL (l : List Int) (a : Int) : List Int := if isSetB l a then l else []
def nkN (l : List Int) (a : Int) : Int := if isSetB l a then a else 0
theorem nk_no {l : List Int} {a : Int} (h : isSetB l a = false) : nkL l a = [] ∧ nkN l a = 0 ∧ tabF l a a = [] := by unfold nkL nkN; rw [h]; exact ⟨rfl, rfl, tabF_no (by rw [h]; rfl)⟩
theorem nk_yes {l : List Int} {a : Int} (h : isSetB l a = true) : nkL l a = l ∧ nkN l a = a := by unfold nkL nkN; rw [h]; exact ⟨rfl, rfl⟩

theorem copyInts_any (v : Value) (l : List Int) (w : World) (h : Ints w v l) :
    Calls Try.prog 46 #[v] w fun e w' => ∃ v', e = .returned v' ∧ Own 3 w w' v' l ∧ Ext w w' := by
  have hO := own_made (TI := 3) (n := 0) (by omega) (Ext.refl w) [] rfl
  have hE := (Ext.refl w).alloc (.cells #[] 3)
  have hI := h.ext hE
  obtain ⟨ao, c, rfl, hc, hlen, -⟩ := h
  go_enter Try.func46, Try.ntmps46
  go_wp2_with (at_builtin; refine wp_appends slI rfl _ _ rfl w _ _ _ _ _ hO hI hE (by simpa using hlen) rfl rfl ?_; intro v1 w1 hO1 hE1)
  go_ret
  exact ⟨_, rfl, by simpa using hO1, hE1⟩

end Go.Zz
