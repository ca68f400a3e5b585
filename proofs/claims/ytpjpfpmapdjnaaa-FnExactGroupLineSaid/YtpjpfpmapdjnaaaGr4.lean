/- numbers and short of the program. -/
import Derived.Test.YtpjpfpmapdjnaaaGr3
import Derived.Test.YtpjpfpmapdjnaaaGr2
import Derived.Deep.RegionHeld3
import Derived.Deep.RegionWith
namespace Go.Zz
open Go.RowKit Go.Proofs
set_option maxHeartbeats 400000
set_option maxRecDepth 4000

theorem jn_congr (s : ByteArray) (f g : Nat → ByteArray) : ∀ k, (∀ i, i < k → f i = g i) → jn s f k = jn s g k := by
  intro k
  induction k with
  | zero => intro _; rfl
  | succ k ih => intro h; unfold jn; rw [ih fun i hi => h i (by omega), h k (by omega)]
theorem nthS_map (l : List Int) (i : Nat) (h : i < l.length) : nthS (l.map fmtB) i = fmtB (nth l i) := by
  simp [nthS, nth, List.getD, h]
def numF (l : List Int) : ByteArray := if l.length = 0 then ⟨#[110, 111, 110, 101]⟩ else jn comma (fun i => fmtB (nth l i)) l.length
theorem take_fmt (l : List Int) (k : Nat) (h : k < l.length) : (l.take (k + 1)).map fmtB = (l.take k).map fmtB ++ [fmtB (nth l k)] := by
  rw [List.take_add_one, List.map_append]
  simp [nth, List.getD, h]
theorem shortF_eq (l : List Int) (h : l.length ≤ 40) : shortF l = numF (l.map clampF) := by
  unfold shortF numF
  rw [List.length_map]
  by_cases h0 : l.length = 0
  · rw [if_pos (Or.inl h0), if_pos h0]
  · rw [if_neg (by omega), if_neg h0]
    exact jn_congr _ _ _ _ fun i hi => by simp [clS, nth, List.getD, hi]
theorem take_clamp (l : List Int) (k : Nat) (h : k < l.length) : (l.take (k + 1)).map clampF = (l.take k).map clampF ++ [clampF (nth l k)] := by
  rw [List.take_add_one, List.map_append]
  simp [nth, List.getD, h]
theorem nth_map_clamp (l : List Int) (i : Nat) (h : i < (l.map clampF).length) : -1 ≤ nth (l.map clampF) i ∧ nth (l.map clampF) i < 1000000000000 := by
  rw [List.length_map] at h
  have e : nth (l.map clampF) i = clampF (nth l i) := by simp [nth, List.getD, h]
  rw [e]; exact clampF_in _
end Go.Zz

/- What the functions on groups and counts return: second part. -/
namespace Go.Zz
open Go.RowKit Go.Proofs
set_option maxHeartbeats 400000

--%call OrderOf 26 ext OrderOf_any _ _ _ ({0})
theorem OrderOf_any (v : Value) (l : List Int) (w : World) (h : Ints w v l) :
    Calls Try.prog 26 #[.agg #[v]] w fun e w' => e = .returned (.int .i64 (ordF l)) ∧ Ext w w' := by
  have hI := h
  obtain ⟨ao, c, adr, rfl, hlen, hadr, hcell⟩ := h.op
  have hix := ints_index (c := c) elI szI hadr
  clear hadr
  have hE0 := (Ext.refl w).alloc (.cells #[(.slice ao l.length c)] 27)
  have hE := Ext.refl (w.alloc (.cells #[(.slice ao l.length c)] 27))
  have hb := box_cell w (.slice ao l.length c) 27
  have hg : ∀ W, Ext (w.alloc (.cells #[(.slice ao l.length c)] 27)) W → Ints W (.slice ao l.length c) l := fun W hW => h.ext (hE0.trans hW)
  clear h
  cases hgr : isGrp l
  · have Hgr := Lib.hid hgr
    go_enter Try.func26, Try.ntmps26
    go_wp2_with (first | (go_at_call 21; refine (IsGroup_any _ _ _ (hg _ hE)).mono ?_; rintro e w' ⟨rfl, hE'⟩; replace hE := hE.trans hE'; clear hE'))
    go_ret
    exact ⟨ret_int (ordF_f Hgr.out).symm, hE0.trans hE⟩
  · have Hgr := Lib.hid hgr
    go_enter Try.func26, Try.ntmps26
    go_wp2_with (first | (go_at_call 21; refine (IsGroup_any _ _ _ (hg _ hE)).mono ?_; rintro e w' ⟨rfl, hE'⟩; replace hE := hE.trans hE'; clear hE'))
    clear hgr
    have h3 := isGrp_len Hgr.out
    have hck : ∀ i, i < l.length → World.cell? _ (adr i) = _ := fun i hi => hcell i _ hi (hE0.trans hE)
    go_loop [3, 12] (fun n i => ∃ k : Nat, k ≤ l.length ∧ n = .int .i64 (prodL (l.take k)) ∧ i = .int .i64 k) (fun _ i => l.length - (intOf i).toNat)
    case atStart => exact ⟨0, by omega, rfl, rfl⟩
    case round =>
      obtain ⟨k, hk, rfl, rfl⟩ := hrel
      obtain ⟨hb0, hb1⟩ := prodL_bd3 k l hk (by omega) (fun j hj => isGrp_nth Hgr.out (by omega))
      by_cases hlt : k < l.length
      · have hin := isGrp_nth Hgr.out hlt
        obtain ⟨hm1, hm2⟩ := mul_fits hb0 hb1 hin.1 hin.2
        go_wp2_with fail
        go_round
        case rel => exact ⟨k + 1, by omega, by rw [prodL_take l k hlt], by go_num⟩
        case measure => (simp [intOf]; omega)
      · have hkl : k = l.length := by omega
        subst hkl
        rw [List.take_length] at *
        go_wp2_with fail
        go_ret
        exact ⟨ret_int (by unfold ordF; rw [if_pos Hgr.out]), hE0.trans hE⟩

--%call l2Order 14 ext l2Order_any _ _ _ ({0}) ({1})
theorem l2Order_any (v : Value) (l : List Int) (w : World) (h : Ints w v l) (Hgr : Hid (isGrp l = true)) :
    Calls Try.prog 14 #[.agg #[v]] w fun e w' => e = .returned (.int .i64 (ord l : Int)) ∧ Ext w w' := by
  obtain ⟨ao, c, adr, rfl, hlen, hadr, hcell⟩ := h.op
  have hix := ints_index (c := c) elI szI hadr
  clear hadr h
  have hE0 := (Ext.refl w).alloc (.cells #[.slice ao l.length c] 27)
  have h3 := isGrp_len Hgr.out
  go_enter Try.func14, Try.ntmps14
  go_wp2_with fail
  go_loop [3, 4] (fun n i => ∃ k : Nat, k ≤ l.length ∧ n = .int .i64 (prodL (l.take k)) ∧ i = .int .i64 k) (fun _ i => l.length - (intOf i).toNat)
  case atStart => exact ⟨0, by omega, rfl, rfl⟩
  case round =>
    obtain ⟨k, hk, rfl, rfl⟩ := hrel
    obtain ⟨hb0, hb1⟩ := prodL_bd3 k l hk (by omega) (fun j hj => isGrp_nth Hgr.out (by omega))
    by_cases hlt : k < l.length
    · have hck := hcell k _ hlt hE0
      have hin := isGrp_nth Hgr.out hlt
      obtain ⟨hm1, hm2⟩ := mul_fits hb0 hb1 hin.1 hin.2
      go_wp2_with fail
      go_round
      case rel => exact ⟨k + 1, by omega, by rw [prodL_take l k hlt], by go_num⟩
      case measure => (simp [intOf]; omega)
    · have hkl : k = l.length := by omega
      subst hkl
      rw [List.take_length] at *
      go_wp2_with fail
      go_ret
      exact ⟨ret_int (ord_cast Hgr.out).symm, hE0⟩

end Go.Zz

/- Elements and sets: members, add, shift, sum. -/
namespace Go.Zz
open Go.RowKit Go.Proofs
set_option maxHeartbeats 400000

--%call members 68 list members_any _ ({0}) _
theorem members_any (a : Nat) (ha : a < 2 ^ 24) (w : World) :
    Calls Try.prog 68 #[.int .i64 a] w fun e w' => ∃ v, e = .returned v ∧ Own 3 w w' v (castL (elems a)) ∧ Ext w w' := by
  have hO0 := own_made (TI := 3) (n := 0) (by omega) (Ext.refl w) [] rfl
  have hE0 := (Ext.refl w).alloc (.cells #[] 3)
  go_enter Try.func68, Try.ntmps68
  go_wp2_with fail
  go_loopw [3, 4] (fun v x wr => ∃ k : Nat, k ≤ 24 ∧ x = .int .i64 k ∧ Own 3 w wr v (castL (elemsTo a k)) ∧ Ext w wr) (fun _ x _ => 24 - (intOf x).toNat)
  case atStart => exact ⟨0, by omega, rfl, hO0, hE0⟩
  case round =>
    obtain ⟨k, hk, rfl, hO, hE⟩ := hrel
    have hsh := ishr_nat (a := a) (n := k) (by omega)
    by_cases h0 : shr a k = 0
    · have he := Lib.hid (elemsTo_all hk (shr_zero.1 h0))
      have h0' : ((shr a k : Nat) : Int) = 0 := by rw [h0]; rfl
      clear h0
      go_wp2_with fail
      go_ret
      exact ⟨_, rfl, by rw [← he.out]; exact hO, hE⟩
    · have hlt := shr_pos h0 ha
      have hne := ne_zero_t h0
      have hbt := bit_test' (a := a) (n := k) (by omega) (by omega)
      have hs := Lib.hid (elemsTo_succ a k)
      have hln : (castL (elemsTo a k)).length ≤ 24 := by rw [castL_len]; have := elemsTo_len a k; omega
      clear h0
      cases hb : a.testBit k
      · rw [hb] at hbt
        have Hb := Lib.hid hb
        clear hb
        go_wp2_with fail
        go_roundw
        case rel => exact ⟨k + 1, by omega, by go_num, by rw [hs.out, Hb.out]; simpa using hO, hE⟩
        case measure => (simp [intOf]; omega)
      · rw [hb] at hbt
        have Hb := Lib.hid hb
        clear hb
        go_wp2_with (at_builtin; refine wp_append1 slI rfl _ _ rfl w _ _ _ _ hO hE (by omega) rfl rfl ?_; intro v1 w1 hO1 hE1)
        go_roundw
        case rel => exact ⟨k + 1, by omega, by go_num, by rw [hs.out, Hb.out]; simpa [castL_snoc] using hO1, hE1⟩
        case measure => (simp [intOf]; omega)

--%call l3List 48 list l3List_any _ ({0}) _
theorem l3List_any (a : Nat) (ha : a < 2 ^ 24) (w : World) :
    Calls Try.prog 48 #[.int .i64 a] w fun e w' => ∃ v, e = .returned v ∧ Own 3 w w' v (castL (elems a)) ∧ Ext w w' := by
  have hO0 := own_made (TI := 3) (n := 0) (by omega) (Ext.refl w) [] rfl
  have hE0 := (Ext.refl w).alloc (.cells #[] 3)
  go_enter Try.func48, Try.ntmps48
  go_wp2_with fail
  go_loopw [3, 4, 5] (fun v i x wr => ∃ k : Nat, k ≤ 24 ∧ i = .int .i64 k ∧ x = .int .i64 ((shr a k : Nat) : Int) ∧ Own 3 w wr v (castL (elemsTo a k)) ∧ Ext w wr) (fun _ i _ _ => 24 - (intOf i).toNat)
  case atStart => exact ⟨0, by omega, rfl, rfl, hO0, hE0⟩
  case round =>
    obtain ⟨k, hk, rfl, rfl, hO, hE⟩ := hrel
    by_cases h0 : shr a k = 0
    · have he := Lib.hid (elemsTo_all hk (shr_zero.1 h0))
      have h0' : ((shr a k : Nat) : Int) = 0 := by rw [h0]; rfl
      clear h0
      go_wp2_with fail
      go_ret
      exact ⟨_, rfl, by rw [← he.out]; exact hO, hE⟩
    · have hlt := shr_pos h0 ha
      have hpos : 0 < ((shr a k : Nat) : Int) := by omega
      have hbt := bit_test' (a := a) (n := k) (by omega) (by omega)
      have hsh : ishr ((shr a k : Nat) : Int) 1 = ((shr a (k + 1) : Nat) : Int) := by rw [← shr_shr]; exact ishr_nat (n := 1) (by omega)
      have hs := Lib.hid (elemsTo_succ a k)
      have hln : (castL (elemsTo a k)).length ≤ 24 := by rw [castL_len]; have := elemsTo_len a k; omega
      clear h0
      cases hb : a.testBit k
      · rw [hb] at hbt
        have Hb := Lib.hid hb
        clear hb
        go_wp2_with fail
        go_roundw
        case rel => exact ⟨k + 1, by omega, by go_num, rfl, by rw [hs.out, Hb.out]; simpa using hO, hE⟩
        case measure => (simp [intOf]; omega)
      · rw [hb] at hbt
        have Hb := Lib.hid hb
        clear hb
        go_wp2_with (at_builtin; refine wp_append1 slI rfl _ _ rfl w _ _ _ _ hO hE (by omega) rfl rfl ?_; intro v1 w1 hO1 hE1)
        go_roundw
        case rel => exact ⟨k + 1, by omega, by go_num, rfl, by rw [hs.out, Hb.out]; simpa [castL_snoc] using hO1, hE1⟩
        case measure => (simp [intOf]; omega)
end Go.Zz

/- Elements and sets: add, shift, sum, areSets, FullSet. -/
namespace Go.Zz
open Go.RowKit Go.Proofs
set_option maxHeartbeats 400000

/-- while the places are added: what is left is below -/
theorem add_inv {s u t A : Nat} (h : s + u * t = A) (hA : A < 24) : s < 24 := by omega
theorem wrapN (n : Nat) (h : n ≤ 9223372036854775807) : wrap64 (n : Int) = (n : Int) := IntWalk.wrap64_in _ (by omega)
theorem div_val {x q : Nat} (hx : x ≤ 16777216) : Value.int .i64 (wrap64 ((x : Int) / (q : Int))) = .int .i64 ((x / q : Nat) : Int) := by
  have h := Nat.div_le_self x q
  rw [show ((x : Int) / (q : Int)) = ((x / q : Nat) : Int) from (Int.natCast_ediv x q).symm]
  generalize x / q = d at h ⊢
  rw [wrapN d (by omega)]
theorem mul_val (u q : Nat) : Value.int .i64 ((u : Int) * (q : Int)) = .int .i64 ((u * q : Nat) : Int) := by rw [Int.natCast_mul]
theorem step_val {x y q s u : Nat} (hs : s < 24) (h0 : 0 ≤ ((x : Int) % (q : Int) + (y : Int) % (q : Int)) % (q : Int) * (u : Int)) (h1 : ((x : Int) % (q : Int) + (y : Int) % (q : Int)) % (q : Int) * (u : Int) ≤ 331776) :
    Value.int .i64 (wrap64 ((s : Int) + wrap64 (((x : Int) + (y : Int)) % (q : Int) * (u : Int)))) = .int .i64 ((s + ((x % q + y % q) % q) * u : Nat) : Int) := by
  have c2 : ((((x % q + y % q) % q) * u : Nat) : Int) = ((x : Int) % (q : Int) + (y : Int) % (q : Int)) % (q : Int) * (u : Int) := by
    rw [Int.natCast_mul, Int.natCast_emod, Int.natCast_add, Int.natCast_emod, Int.natCast_emod]
  rw [← c2] at h0 h1
  rw [show ((x : Int) + (y : Int)) % (q : Int) * (u : Int) = ((((x % q + y % q) % q) * u : Nat) : Int) from by rw [c2, Int.add_emod]]
  generalize ((x % q + y % q) % q) * u = d at h0 h1 ⊢
  rw [wrapN d (by omega), ← Int.natCast_add, wrapN (s + d) (by omega)]
theorem add_next {s u d q t A : Nat} (h : s + u * (d + q * t) = A) : (s + d * u) + (u * q) * t = A := by
  rw [Nat.mul_add, ← Nat.mul_assoc, Nat.mul_comm u d] at h; omega
--%call add 60 ext add_any _ _ _ _ _ ({0}) ({1}) ({2}) ({3})
theorem add_any (v : Value) (l : List Int) (x y : Nat) (w : World) (h : Ints w v l) (Hgr : Hid (isGrp l = true)) (hx : x < 16777216) (hy : y < 16777216) :
    Calls Try.prog 60 #[.agg #[v], .int .i64 x, .int .i64 y] w fun e w' => e = .returned (.int .i64 (addF l x y)) ∧ Ext w w' := by
  obtain ⟨ao, c, adr, rfl, hlen, hadr, hcell⟩ := h.op
  have hix := ints_index (c := c) elI szI hadr
  clear hadr h
  obtain ⟨wb, hwb⟩ : ∃ wb, wb = w.alloc (.cells #[.slice ao l.length c] 27) := ⟨_, rfl⟩
  have hE0 := (Ext.refl w).alloc (.cells #[.slice ao l.length c] 27)
  rw [← hwb] at hE0
  have hE := Ext.refl wb
  have Hwb := Lib.hid hwb
  have hA := addF_bd Hgr.out x y
  have h3 := isGrp_len Hgr.out
  clear hwb
  go_enter Try.func60, Try.ntmps60
  go_wp2_with fail
  rw [← Hwb.out]
  go_loopw [1, 2, 7, 8, 14] (fun xv yv sv uv i wr => ∃ k x' y' s u : Nat, k ≤ l.length ∧ x' ≤ x ∧ y' ≤ y ∧ s + u * addF (l.drop k) x' y' = addF l x y ∧ (u : Int) = prodL (l.take k) ∧ xv = .int .i64 x' ∧ yv = .int .i64 y' ∧ sv = .int .i64 s ∧ uv = .int .i64 u ∧ i = .int .i64 k ∧ Ext wb wr) (fun _ _ _ _ i _ => l.length - (intOf i).toNat)
  case atStart => exact ⟨0, x, y, 0, 1, by omega, by omega, by omega, by simp, by simp [prodL], rfl, rfl, rfl, rfl, rfl, hE⟩
  case round =>
    clear hE
    obtain ⟨k, x', y', s, u, hk, hx', hy', hs, hu, rfl, rfl, rfl, rfl, rfl, hE⟩ := hrel
    have hsb := add_inv hs hA
    obtain ⟨hu1, hu2⟩ := prodL_bd3 k l hk (by omega) (fun j hj => isGrp_nth Hgr.out (by omega))
    rw [← hu] at hu1 hu2
    have Hs := Lib.hid hs
    have Hu := Lib.hid hu
    clear hs hu hA
    by_cases hlt : k < l.length
    · have hck := hcell k _ hlt (hE0.trans hE)
      obtain ⟨hq1, hq2⟩ := isGrp_nth Hgr.out hlt
      obtain ⟨q, hq⟩ := Int.eq_ofNat_of_zero_le (show 0 ≤ nth l k by omega)
      have Hst := Lib.hid (addF_step hlt hq x' y')
      have hu' : nth l k * prodL (l.take k) = prodL (l.take (k + 1)) := by rw [prodL_take l k hlt, Int.mul_comm]
      have Hu2 := Lib.hid hu'
      rw [hq] at hq1 hq2
      have Hq := Lib.hid hq
      have hd : (x' % q + y' % q) % q < 24 := Nat.lt_of_lt_of_le (Nat.mod_lt _ (by omega)) (by omega)
      have hm1 : ((x' % q + y' % q) % q) * u ≤ 24 * 13824 := Nat.mul_le_mul (by omega) (by omega)
      have hm2 : u * q ≤ 13824 * 24 := Nat.mul_le_mul (by omega) (by omega)
      have c1 : ((x' % q + y' % q : Nat) : Int) = (x' : Int) % (q : Int) + (y' : Int) % (q : Int) := by simp
      have c2 : ((((x' % q + y' % q) % q) * u : Nat) : Int) = ((x' : Int) % (q : Int) + (y' : Int) % (q : Int)) % (q : Int) * (u : Int) := by rw [Int.natCast_mul, Int.natCast_emod, c1]
      have c3 : ((u * q : Nat) : Int) = (u : Int) * (q : Int) := Int.natCast_mul _ _
      have b1 : (x' : Int) % (q : Int) < 24 := by have := Int.emod_lt_of_pos (x' : Int) (show (0:Int) < q by omega); omega
      have b2 : (y' : Int) % (q : Int) < 24 := by have := Int.emod_lt_of_pos (y' : Int) (show (0:Int) < q by omega); omega
      have b3 : 0 ≤ (x' : Int) % (q : Int) := Int.emod_nonneg _ (by omega)
      have b4 : 0 ≤ (y' : Int) % (q : Int) := Int.emod_nonneg _ (by omega)
      have b5 : ((x' : Int) % (q : Int) + (y' : Int) % (q : Int)) % (q : Int) * (u : Int) ≤ 331776 := by rw [← c2]; omega
      have b6 : 0 ≤ ((x' : Int) % (q : Int) + (y' : Int) % (q : Int)) % (q : Int) * (u : Int) := by rw [← c2]; omega
      have b7 : (u : Int) * (q : Int) ≤ 331776 := by rw [← c3]; omega
      have b8 : 0 ≤ (u : Int) * (q : Int) := by rw [← c3]; omega
      have C2 := Lib.hid c2
      have C3 := Lib.hid c3
      clear c1 c2 c3 hd hm1 hm2 hu'
      go_wp2_with fail
      (refine wp_region_lat (wb) (by kernel_rfl) (by kernel_rfl) hE ?_); (repeat (go_big_quiet_step (first | fail))); (refine wpQuiet_nil ?_); (intro W hE'); (replace hE := lat_of hE'); (clear hE')
      go_wp2_with fail
      (refine wp_region_lat (wb) (by kernel_rfl) (by kernel_rfl) hE ?_); (repeat (go_big_quiet_step (first | fail))); (refine wpQuiet_nil ?_); (intro W hE'); (replace hE := lat_of hE'); (clear hE')
      go_wp2_with fail
      go_roundw
      case rel =>
        refine ⟨k + 1, x' / q, y' / q, s + ((x' % q + y' % q) % q) * u, u * q, by omega, Nat.le_trans (Nat.div_le_self _ _) hx', Nat.le_trans (Nat.div_le_self _ _) hy', ?_, ?_, ?_, ?_, ?_, ?_, by go_num, hE⟩
        · apply add_next
          rw [← Hst.out]; exact Hs.out
        · rw [← Hu2.out, ← Hu.out, Hq.out]; push_cast; rw [Int.mul_comm]
        · exact div_val (Nat.le_trans hx' (Nat.le_of_lt hx))
        · exact div_val (Nat.le_trans hy' (Nat.le_of_lt hy))
        · exact step_val hsb b6 b5
        · exact mul_val u q
      case measure => (simp [intOf]; omega)
    · have hkl : k = l.length := by omega
      subst hkl
      go_wp2_with fail
      go_ret
      exact ⟨ret_int (by have := Hs.out; rw [List.drop_length] at this; simp [addF] at this; omega), hE0.trans hE⟩
end Go.Zz

/- The reference's sum of elements, and shifted sets. -/
namespace Go.Zz
open Go.RowKit Go.Proofs
set_option maxHeartbeats 400000

--%call l2Add 63 ext l2Add_any _ _ _ _ _ ({0}) ({1}) ({2}) ({3})
theorem l2Add_any (v : Value) (l : List Int) (x y : Nat) (w : World) (h : Ints w v l) (Hgr : Hid (isGrp l = true)) (hx : x < 16777216) (hy : y < 16777216) :
    Calls Try.prog 63 #[.agg #[v], .int .i64 x, .int .i64 y] w fun e w' => e = .returned (.int .i64 (addF l x y)) ∧ Ext w w' := by
  obtain ⟨ao, c, adr, rfl, hlen, hadr, hcell⟩ := h.op
  have hix := ints_index (c := c) elI szI hadr
  clear hadr h
  obtain ⟨wb, hwb⟩ : ∃ wb, wb = w.alloc (.cells #[.slice ao l.length c] 27) := ⟨_, rfl⟩
  have hE0 := (Ext.refl w).alloc (.cells #[.slice ao l.length c] 27)
  have hb := box_cell w (.slice ao l.length c) 27
  rw [← hwb] at hE0 hb
  have hE := Ext.refl wb
  have Hwb := Lib.hid hwb
  have hA := addF_bd Hgr.out x y
  have h3 := isGrp_len Hgr.out
  clear hwb
  go_enter Try.func63, Try.ntmps63
  go_wp2_with fail
  rw [← Hwb.out]
  go_loopw [1, 2, 7, 8, 9] (fun xv yv sv uv i wr => ∃ k x' y' s u : Nat, k ≤ l.length ∧ x' ≤ x ∧ y' ≤ y ∧ s + u * addF (l.drop k) x' y' = addF l x y ∧ (u : Int) = prodL (l.take k) ∧ xv = .int .i64 x' ∧ yv = .int .i64 y' ∧ sv = .int .i64 s ∧ uv = .int .i64 u ∧ i = .int .i64 k ∧ Ext wb wr) (fun _ _ _ _ i _ => l.length - (intOf i).toNat)
  case atStart => exact ⟨0, x, y, 0, 1, by omega, by omega, by omega, by simp, by simp [prodL], rfl, rfl, rfl, rfl, rfl, hE⟩
  case round =>
    clear hE
    obtain ⟨k, x', y', s, u, hk, hx', hy', hs, hu, rfl, rfl, rfl, rfl, rfl, hE⟩ := hrel
    have hsb := add_inv hs hA
    have hbx := hb wr hE
    obtain ⟨hu1, hu2⟩ := prodL_bd3 k l hk (by omega) (fun j hj => isGrp_nth Hgr.out (by omega))
    rw [← hu] at hu1 hu2
    have Hs := Lib.hid hs
    have Hu := Lib.hid hu
    clear hs hu hA
    by_cases hlt : k < l.length
    · have hck := hcell k _ hlt (hE0.trans hE)
      obtain ⟨hq1, hq2⟩ := isGrp_nth Hgr.out hlt
      obtain ⟨q, hq⟩ := Int.eq_ofNat_of_zero_le (show 0 ≤ nth l k by omega)
      have Hst := Lib.hid (addF_step hlt hq x' y')
      have hu' : nth l k * prodL (l.take k) = prodL (l.take (k + 1)) := by rw [prodL_take l k hlt, Int.mul_comm]
      have Hu2 := Lib.hid hu'
      rw [hq] at hq1 hq2
      have Hq := Lib.hid hq
      have hd : (x' % q + y' % q) % q < 24 := Nat.lt_of_lt_of_le (Nat.mod_lt _ (by omega)) (by omega)
      have hm1 : ((x' % q + y' % q) % q) * u ≤ 24 * 13824 := Nat.mul_le_mul (by omega) (by omega)
      have hm2 : u * q ≤ 13824 * 24 := Nat.mul_le_mul (by omega) (by omega)
      have c1 : ((x' % q + y' % q : Nat) : Int) = (x' : Int) % (q : Int) + (y' : Int) % (q : Int) := by simp
      have c2 : ((((x' % q + y' % q) % q) * u : Nat) : Int) = ((x' : Int) % (q : Int) + (y' : Int) % (q : Int)) % (q : Int) * (u : Int) := by rw [Int.natCast_mul, Int.natCast_emod, c1]
      have c3 : ((u * q : Nat) : Int) = (u : Int) * (q : Int) := Int.natCast_mul _ _
      have b1 : (x' : Int) % (q : Int) < 24 := by have := Int.emod_lt_of_pos (x' : Int) (show (0:Int) < q by omega); omega
      have b2 : (y' : Int) % (q : Int) < 24 := by have := Int.emod_lt_of_pos (y' : Int) (show (0:Int) < q by omega); omega
      have b3 : 0 ≤ (x' : Int) % (q : Int) := Int.emod_nonneg _ (by omega)
      have b4 : 0 ≤ (y' : Int) % (q : Int) := Int.emod_nonneg _ (by omega)
      have b5 : ((x' : Int) % (q : Int) + (y' : Int) % (q : Int)) % (q : Int) * (u : Int) ≤ 331776 := by rw [← c2]; omega
      have b6 : 0 ≤ ((x' : Int) % (q : Int) + (y' : Int) % (q : Int)) % (q : Int) * (u : Int) := by rw [← c2]; omega
      have b7 : (u : Int) * (q : Int) ≤ 331776 := by rw [← c3]; omega
      have b8 : 0 ≤ (u : Int) * (q : Int) := by rw [← c3]; omega
      have C2 := Lib.hid c2
      have C3 := Lib.hid c3
      clear c1 c2 c3 hd hm1 hm2 hu'
      go_wp2_with fail
      (refine wp_region_lat (wb) (by kernel_rfl) (by kernel_rfl) hE ?_); (repeat (go_big_quiet_step (first | fail))); (refine wpQuiet_nil ?_); (intro W hE'); (replace hE := lat_of hE'); (clear hE')
      go_wp2_with fail
      go_roundw
      case rel =>
        refine ⟨k + 1, x' / q, y' / q, s + ((x' % q + y' % q) % q) * u, u * q, by omega, Nat.le_trans (Nat.div_le_self _ _) hx', Nat.le_trans (Nat.div_le_self _ _) hy', ?_, ?_, ?_, ?_, ?_, ?_, by go_num, hE⟩
        · apply add_next
          rw [← Hst.out]; exact Hs.out
        · rw [← Hu2.out, ← Hu.out, Hq.out]; push_cast; rw [Int.mul_comm]
        · exact div_val (Nat.le_trans hx' (Nat.le_of_lt hx))
        · exact div_val (Nat.le_trans hy' (Nat.le_of_lt hy))
        · exact step_val hsb b6 b5
        · exact mul_val u q
      case measure => (simp [intOf]; omega)
    · have hkl : k = l.length := by omega
      subst hkl
      go_wp2_with fail
      go_ret
      exact ⟨ret_int (by have := Hs.out; rw [List.drop_length] at this; simp [addF] at this; omega), hE0.trans hE⟩
end Go.Zz

/- Shifted sets and sums of sets. -/
namespace Go.Zz
open Go.RowKit Go.Proofs
set_option maxHeartbeats 400000

theorem Ints.nats {w : World} {v : Value} {L : List Nat} (h : Ints w v (castL L)) :
    ∃ (ao : Option Addr) (c : Nat) (adr : Nat → Addr), v = .slice ao L.length c ∧
      (∀ i, i < L.length → ao = some (adr 0) ∧ adr i = (adr 0).add i) ∧
      (∀ i W, i < L.length → Ext w W → W.cell? (adr i) = some (.int .i64 (nthN L i : Int))) := by
  obtain ⟨ao, c, adr, rfl, _, h2, h3⟩ := h.op
  rw [castL_len] at h2 h3
  exact ⟨ao, c, adr, by rw [castL_len], h2, fun i W hi hW => by rw [h3 i W hi hW, nth_castL]⟩

/-- the shifts of the elements of a list -/
def shiftL (l : List Int) (L : List Nat) (x : Nat) : Nat := bset (L.map (fun y => addF l x y))
theorem shiftL_snoc (l : List Int) (L : List Nat) (y x : Nat) : shiftL l (L ++ [y]) x = shiftL l L x ||| 2 ^ addF l x y := by
  unfold shiftL; rw [List.map_append]; exact bset_snoc _ _
theorem shiftL_all (l : List Int) (a x : Nat) : shiftL l (elems a) x = shiftF l a x := rfl
theorem shiftL_bd {l : List Int} (h : isGrp l = true) (L : List Nat) (x : Nat) : shiftL l L x < 2 ^ 24 := by
  refine bset_lt fun y hy => ?_
  obtain ⟨z, _, rfl⟩ := List.mem_map.1 hy
  exact addF_bd h _ _
theorem shiftL_next (l : List Int) (a k x : Nat) (hb : a.testBit k = true) : shiftL l (elemsTo a (k + 1)) x = shiftL l (elemsTo a k) x ||| 2 ^ addF l x k := by
  rw [elemsTo_succ, hb, if_pos rfl, shiftL_snoc]
theorem shiftL_same (l : List Int) (a k x : Nat) (hb : a.testBit k = false) : shiftL l (elemsTo a (k + 1)) x = shiftL l (elemsTo a k) x := by
  rw [elemsTo_succ, hb]; simp

--%call shift 69 ext shift_any _ _ _ _ _ ({0}) ({1}) ({2}) ({3})
theorem shift_any (v : Value) (l : List Int) (a x : Nat) (w : World) (h : Ints w v l) (Hgr : Hid (isGrp l = true)) (ha : a < 2 ^ 24) (hx : x < 24) :
    Calls Try.prog 69 #[.agg #[v], .int .i64 a, .int .i64 x] w fun e w' => e = .returned (.int .i64 (shiftF l a x)) ∧ Ext w w' := by
  obtain ⟨wb, hwb⟩ : ∃ wb, wb = w.alloc (.cells #[v] 27) := ⟨_, rfl⟩
  have hE0 := (Ext.refl w).alloc (.cells #[v] 27)
  have hb := box_cell w v 27
  rw [← hwb] at hE0 hb
  have hg : ∀ W, Ext wb W → Ints W v l := fun W hW => h.ext (hE0.trans hW)
  have hE := Ext.refl wb
  have Hwb := Lib.hid hwb
  clear hwb h
  go_enter Try.func69, Try.ntmps69
  go_wp2_with fail
  rw [← Hwb.out]
  go_loopw [7, 8] (fun ov yv wr => ∃ k : Nat, k ≤ 24 ∧ yv = .int .i64 k ∧ ov = .int .i64 ((shiftL l (elemsTo a k) x : Nat) : Int) ∧ Ext wb wr) (fun _ y _ => 24 - (intOf y).toNat)
  case atStart => exact ⟨0, by omega, rfl, by simp [shiftL, elemsTo, bset], hE⟩
  case round =>
    clear hE
    obtain ⟨k, hk, rfl, rfl, hE⟩ := hrel
    have hbx := hb wr hE
    have hsh := ishr_nat (a := a) (n := k) (by omega)
    by_cases h0 : shr a k = 0
    · have he := Lib.hid (elemsTo_all hk (shr_zero.1 h0))
      have h0' : ((shr a k : Nat) : Int) = 0 := by rw [h0]; rfl
      clear h0
      go_wp2_with fail
      go_ret
      exact ⟨ret_int (by rw [he.out]; rfl), hE0.trans hE⟩
    · have hlt := shr_pos h0 ha
      have hne := ne_zero_t h0
      have hbt := bit_test' (a := a) (n := k) (by omega) (by omega)
      clear h0
      cases hb : a.testBit k
      · rw [hb] at hbt
        have Hb := Lib.hid (shiftL_same l a k x hb)
        clear hb
        go_wp2_with fail
        go_roundw
        case rel => exact ⟨k + 1, by omega, by go_num, by rw [Hb.out], hE⟩
        case measure => (simp [intOf]; omega)
      · rw [hb] at hbt
        have Hb := Lib.hid (shiftL_next l a k x hb)
        have hz := addF_bd Hgr.out x k
        have hs1 := ishl_one (n := addF l x k) (by omega)
        have hs2 := ior_pw (shiftL_bd Hgr.out (elemsTo a k) x) hz
        clear hb
        go_wp2_with (first | (go_at_call 60; refine (add_any _ _ _ _ _ (hg _ hE) (Hgr) ((by omega)) ((by omega))).mono ?_; rintro e w' ⟨rfl, hE'⟩; replace hE := hE.trans hE'; clear hE'))
        go_roundw
        case rel => exact ⟨k + 1, by omega, by go_num, by rw [Hb.out], hE⟩
        case measure => (simp [intOf]; omega)

--%call l3Shift 49 ext l3Shift_any _ _ _ _ _ ({0}) ({1}) ({2}) ({3})
theorem l3Shift_any (v : Value) (l : List Int) (a x : Nat) (w : World) (h : Ints w v l) (Hgr : Hid (isGrp l = true)) (ha : a < 2 ^ 24) (hx : x < 24) :
    Calls Try.prog 49 #[.agg #[v], .int .i64 a, .int .i64 x] w fun e w' => e = .returned (.int .i64 (shiftF l a x)) ∧ Ext w w' := by
  obtain ⟨wb, hwb⟩ : ∃ wb, wb = w.alloc (.cells #[v] 27) := ⟨_, rfl⟩
  have hE0 := (Ext.refl w).alloc (.cells #[v] 27)
  have hb := box_cell w v 27
  rw [← hwb] at hE0 hb
  have hg : ∀ W, Ext wb W → Ints W v l := fun W hW => h.ext (hE0.trans hW)
  have Hwb := Lib.hid hwb
  clear hwb h
  go_enter Try.func49, Try.ntmps49
  go_wp2_with fail
  rw [← Hwb.out]
  go_wp2_with (first | (go_at_call 48; refine (l3List_any _ (ha) _).mono ?_; rintro e w1 ⟨v1, rfl, hL, hE1⟩; obtain ⟨aoL, cL, adrL, rfl, hadrL, hcellL⟩ := hL.ints.nats; have hixL := ints_index (c := cL) elI szI hadrL; clear hadrL))
  have hb1 : ∀ W, Ext w1 W → W.cell? ⟨w.heap.size, 0, none⟩ = some v := fun W hW => hb W (hE1.trans hW)
  have hg1 : ∀ W, Ext w1 W → Ints W v l := fun W hW => hg W (hE1.trans hW)
  have hE := Ext.refl w1
  clear hb hg hL
  have hall : ∀ y ∈ elems a, y < 24 := fun y hy => elems_lt hy
  have hlen := elems_len a
  have Hd := Lib.hid (shiftL_all l a x)
  generalize elems a = L at hcellL hixL hall hlen Hd ⊢
  go_loopw [7, 9] (fun ov i wr => ∃ k : Nat, k ≤ L.length ∧ i = .int .i64 k ∧ ov = .int .i64 ((shiftL l (L.take k) x : Nat) : Int) ∧ Ext w1 wr) (fun _ i _ => L.length - (intOf i).toNat)
  case atStart => exact ⟨0, by omega, rfl, by simp [shiftL, bset], hE⟩
  case round =>
    clear hE
    obtain ⟨k, hk, rfl, rfl, hE⟩ := hrel
    by_cases hlt : k < L.length
    · have hck := fun U => hcellL k _ hlt (lat_ext w1 U)
      have hbx := fun U => hb1 _ (lat_ext w1 U)
      have hby := hall _ (nthN_mem hlt)
      have Ht := Lib.hid (shiftL_snoc l (L.take k) (nthN L k) x)
      have Ht2 := Lib.hid (take_nthN L k hlt)
      have hz := addF_bd Hgr.out x (nthN L k)
      have hcm := Lib.hid (addF_comm l (nthN L k) x)
      have hs1 := ishl_one (n := addF l (nthN L k) x) (by rw [hcm.out]; omega)
      have hs2 := ior_pw (shiftL_bd Hgr.out (L.take k) x) (show addF l (nthN L k) x < 24 by rw [hcm.out]; omega)
      go_wp2_with fail
      (refine wp_region_lat (w1) (by kernel_rfl) (by kernel_rfl) hE ?_); (repeat (go_big_quiet_step (first | (go_at_call 63; exact Calls.lat (l2Add_any _ _ _ _ _ (hg1 _ (lat_ext w1 _)) (Hgr) ((by omega)) ((by omega))))))); (refine wpQuiet_nil ?_); (intro W hE'); (replace hE := lat_of hE'); (clear hE')
      go_wp2_with fail
      go_roundw
      case rel => exact ⟨k + 1, by omega, by go_num, by rw [Ht2.out, Ht.out, hcm.out], hE⟩
      case measure => (simp [intOf]; omega)
    · have hkl : k = L.length := by omega
      subst hkl
      go_wp2_with fail
      go_ret
      exact ⟨ret_int (by rw [List.take_length, Hd.out]), hE0.trans (hE1.trans hE)⟩
end Go.Zz

/- Sums of sets, and the full set. -/
namespace Go.Zz
open Go.RowKit Go.Proofs
set_option maxHeartbeats 400000

--%call sum 53 ext sum_any _ _ _ _ _ ({0}) ({1}) ({2}) ({3})
theorem sum_any (v : Value) (l : List Int) (a b : Nat) (w : World) (h : Ints w v l) (Hgr : Hid (isGrp l = true)) (ha : a < 2 ^ 24) (hb' : b < 2 ^ 24) :
    Calls Try.prog 53 #[.agg #[v], .int .i64 a, .int .i64 b] w fun e w' => e = .returned (.int .i64 (sumF l a b)) ∧ Ext w w' := by
  obtain ⟨wb, hwb⟩ : ∃ wb, wb = w.alloc (.cells #[v] 27) := ⟨_, rfl⟩
  have hE0 := (Ext.refl w).alloc (.cells #[v] 27)
  have hb := box_cell w v 27
  rw [← hwb] at hE0 hb
  have hg : ∀ W, Ext wb W → Ints W v l := fun W hW => h.ext (hE0.trans hW)
  have Hwb := Lib.hid hwb
  clear hwb h
  go_enter Try.func53, Try.ntmps53
  go_wp2_with fail
  rw [← Hwb.out]
  go_wp2_with (first | (go_at_call 68; refine (members_any _ (ha) _).mono ?_; rintro e w1 ⟨v1, rfl, hL, hE1⟩; obtain ⟨aoL, cL, adrL, rfl, hadrL, hcellL⟩ := hL.ints.nats; have hixL := ints_index (c := cL) elI szI hadrL; clear hadrL))
  have hb1 : ∀ W, Ext w1 W → W.cell? ⟨w.heap.size, 0, none⟩ = some v := fun W hW => hb W (hE1.trans hW)
  have hg1 : ∀ W, Ext w1 W → Ints W v l := fun W hW => hg W (hE1.trans hW)
  have hE := Ext.refl w1
  clear hb hg hL
  have hall : ∀ y ∈ elems a, y < 24 := fun y hy => elems_lt hy
  have hlen := elems_len a
  have Hd := Lib.hid (sumTo_all l a b)
  generalize elems a = L at hcellL hixL hall hlen Hd ⊢
  go_loopw [7, 13] (fun ov i wr => ∃ k : Nat, k ≤ L.length ∧ i = .int .i64 k ∧ ov = .int .i64 ((sumTo l (L.take k) b : Nat) : Int) ∧ Ext w1 wr) (fun _ i _ => L.length - (intOf i).toNat)
  case atStart => exact ⟨0, by omega, rfl, by simp [sumTo, bset], hE⟩
  case round =>
    clear hE
    obtain ⟨k, hk, rfl, rfl, hE⟩ := hrel
    by_cases hlt : k < L.length
    · have hck := hcellL k _ hlt hE
      have hbx := hb1 _ hE
      have hby := hall _ (nthN_mem hlt)
      have Ht := Lib.hid (sumTo_snoc l (L.take k) (nthN L k) b)
      have Ht2 := Lib.hid (take_nthN L k hlt)
      have hs := sumTo_bd Hgr.out (L.take k) b
      have hf := shiftF_bd Hgr.out b (nthN L k)
      have hs2 := ior_nat (show sumTo l (L.take k) b < 2 ^ 63 by omega) (show shiftF l b (nthN L k) < 2 ^ 63 by omega)
      go_wp2_with (first | (go_at_call 69; refine (shift_any _ _ _ _ _ (hg1 _ hE) (Hgr) (hb') (hby)).mono ?_; rintro e w' ⟨rfl, hE'⟩; replace hE := hE.trans hE'; clear hE'))
      go_roundw
      case rel => exact ⟨k + 1, by omega, by go_num, by rw [Ht2.out, Ht.out], hE⟩
      case measure => (simp [intOf]; omega)
    · have hkl : k = L.length := by omega
      subst hkl
      go_wp2_with fail
      go_ret
      exact ⟨ret_int (by rw [List.take_length, Hd.out]), hE0.trans (hE1.trans hE)⟩

--%call l4Sum 36 ext l4Sum_any _ _ _ _ _ ({0}) ({1}) ({2}) ({3})
theorem l4Sum_any (v : Value) (l : List Int) (a b : Nat) (w : World) (h : Ints w v l) (Hgr : Hid (isGrp l = true)) (ha : a < 2 ^ 24) (hb' : b < 2 ^ 24) :
    Calls Try.prog 36 #[.agg #[v], .int .i64 a, .int .i64 b] w fun e w' => e = .returned (.int .i64 (sumF l a b)) ∧ Ext w w' := by
  obtain ⟨wb, hwb⟩ : ∃ wb, wb = w.alloc (.cells #[v] 27) := ⟨_, rfl⟩
  have hE0 := (Ext.refl w).alloc (.cells #[v] 27)
  have hb := box_cell w v 27
  rw [← hwb] at hE0 hb
  have hg : ∀ W, Ext wb W → Ints W v l := fun W hW => h.ext (hE0.trans hW)
  have Hwb := Lib.hid hwb
  clear hwb h
  go_enter Try.func36, Try.ntmps36
  go_wp2_with fail
  rw [← Hwb.out]
  go_wp2_with (first | (go_at_call 48; refine (l3List_any _ (hb') _).mono ?_; rintro e w1 ⟨v1, rfl, hL, hE1⟩; obtain ⟨aoL, cL, adrL, rfl, hadrL, hcellL⟩ := hL.ints.nats; have hixL := ints_index (c := cL) elI szI hadrL; clear hadrL))
  have hb1 : ∀ W, Ext w1 W → W.cell? ⟨w.heap.size, 0, none⟩ = some v := fun W hW => hb W (hE1.trans hW)
  have hg1 : ∀ W, Ext w1 W → Ints W v l := fun W hW => hg W (hE1.trans hW)
  have hE := Ext.refl w1
  clear hb hg hL
  have hall : ∀ y ∈ elems b, y < 24 := fun y hy => elems_lt hy
  have hlen := elems_len b
  have Hd : Hid (sumTo l (elems b) a = sumF l a b) := Lib.hid (by rw [sumTo_all, sumF_comm])
  generalize elems b = L at hcellL hixL hall hlen Hd ⊢
  go_loopw [7, 9] (fun ov i wr => ∃ k : Nat, k ≤ L.length ∧ i = .int .i64 k ∧ ov = .int .i64 ((sumTo l (L.take k) a : Nat) : Int) ∧ Ext w1 wr) (fun _ i _ => L.length - (intOf i).toNat)
  case atStart => exact ⟨0, by omega, rfl, by simp [sumTo, bset], hE⟩
  case round =>
    clear hE
    obtain ⟨k, hk, rfl, rfl, hE⟩ := hrel
    by_cases hlt : k < L.length
    · have hck := fun U => hcellL k _ hlt (lat_ext w1 U)
      have hbx := fun U => hb1 _ (lat_ext w1 U)
      have hby := hall _ (nthN_mem hlt)
      have Ht := Lib.hid (sumTo_snoc l (L.take k) (nthN L k) a)
      have Ht2 := Lib.hid (take_nthN L k hlt)
      have hs := sumTo_bd Hgr.out (L.take k) a
      have hf := shiftF_bd Hgr.out a (nthN L k)
      have hs2 := ior_nat (show sumTo l (L.take k) a < 2 ^ 63 by omega) (show shiftF l a (nthN L k) < 2 ^ 63 by omega)
      go_wp2_with fail
      (refine wp_region_lat (w1) (by kernel_rfl) (by kernel_rfl) hE ?_); (repeat (go_big_quiet_step (first | (go_at_call 49; exact Calls.lat (l3Shift_any _ _ _ _ _ (hg1 _ (lat_ext w1 _)) (Hgr) (ha) (hby)))))); (refine wpQuiet_nil ?_); (intro W hE'); (replace hE := lat_of hE'); (clear hE')
      go_wp2_with fail
      go_roundw
      case rel => exact ⟨k + 1, by omega, by go_num, by rw [Ht2.out, Ht.out], hE⟩
      case measure => (simp [intOf]; omega)
    · have hkl : k = L.length := by omega
      subst hkl
      go_wp2_with fail
      go_ret
      exact ⟨ret_int (by rw [List.take_length, Hd.out]), hE0.trans (hE1.trans hE)⟩

/-- all of the list are sets, and the group is one -/
theorem areF_no {l xs : List Int} {k : Nat} (hk : k < xs.length) (h : isSetB l (nth xs k) = false) : areF l xs = false := by
  unfold areF
  have : xs.all (isSetB l) = false := by
    cases e : xs.all (isSetB l)
    · rfl
    · rw [List.all_eq_true.1 e _ (nth_mem hk)] at h; cases h
  rw [this]; rfl
theorem areF_end {l xs : List Int} (h : ∀ j, j < xs.length → isSetB l (nth xs j) = true) : areF l xs = isGrp l := by
  unfold areF
  rw [show xs.all (isSetB l) = true from List.all_eq_true.2 fun x hx => by obtain ⟨k, hk, rfl⟩ := mem_nth hx; exact h k hk]; rfl

/-- all elements, xs a set -/
def fullF (l : List Int) : Int := if isGrp l then ((pw (ord l) - 1 : Nat) : Int) else 0
theorem fullF_t {l : List Int} (h : isGrp l = true) : fullF l = ((pw (ord l) : Nat) : Int) - 1 := by
  unfold fullF; rw [if_pos h]; have := pw_pos (ord l); omega
theorem fullF_f {l : List Int} (h : isGrp l = false) : fullF l = 0 := by unfold fullF; rw [h]; rfl
--%call FullSet 83 ext FullSet_any _ _ _ ({0})
theorem FullSet_any (v : Value) (l : List Int) (w : World) (h : Ints w v l) :
    Calls Try.prog 83 #[.agg #[v]] w fun e w' => e = .returned (.int .i64 (fullF l)) ∧ Ext w w' := by
  have hE0 := (Ext.refl w).alloc (.cells #[v] 27)
  have hE := Ext.refl (w.alloc (.cells #[v] 27))
  have hb := box_cell w v 27
  have hg : ∀ W, Ext (w.alloc (.cells #[v] 27)) W → Ints W v l := fun W hW => h.ext (hE0.trans hW)
  clear h
  cases hs : isGrp l
  · have Hs := Lib.hid (fullF_f hs)
    go_enter Try.func83, Try.ntmps83
    go_wp2_with (first | (go_at_call 21; refine (IsGroup_any _ _ _ (hg _ hE)).mono ?_; rintro e w' ⟨rfl, hE'⟩; replace hE := hE.trans hE'; clear hE'))
    go_ret
    exact ⟨ret_int Hs.out.symm, hE0.trans hE⟩
  · have Hs := Lib.hid (fullF_t hs)
    have ho := ordF_t hs
    have hb1 := ord_bd hs
    have hp1 := pw_pos (ord l)
    have hp2 := pw_le hb1.2
    have hs1 := ishl_one (n := ord l) (by omega)
    go_enter Try.func83, Try.ntmps83
    go_wp2_with (first | (go_at_call 21; refine (IsGroup_any _ _ _ (hg _ hE)).mono ?_; rintro e w' ⟨rfl, hE'⟩; replace hE := hE.trans hE'; clear hE') | (go_at_call 26; refine (OrderOf_any _ _ _ (hg _ hE)).mono ?_; rintro e w' ⟨rfl, hE'⟩; replace hE := hE.trans hE'; clear hE'))
    go_ret
    exact ⟨ret_int Hs.out.symm, hE0.trans hE⟩
end Go.Zz

/- FormatSet of the program. -/
namespace Go.Zz
open Go.RowKit Go.Proofs
set_option maxHeartbeats 400000
set_option maxRecDepth 4000

def fsF (l : List Int) (a : Int) : ByteArray := if isSetB l a then numF (castL (elems a.toNat)) else ⟨#[]⟩
theorem fsF_no {l : List Int} {a : Int} (h : isSetB l a = false) : fsF l a = ⟨#[]⟩ := by unfold fsF; rw [h]; rfl
theorem fsF_nat {l : List Int} {n : Nat} (h : isSetB l n = true) : fsF l n = numF (castL (elems n)) := by unfold fsF; rw [h]; rfl
theorem elems_in (n i : Nat) (h : i < (castL (elems n)).length) : -1 ≤ nth (castL (elems n)) i ∧ nth (castL (elems n)) i < 1000000000000 := by
  rw [castL_len] at h
  have e : nth (castL (elems n)) i = ((elems n)[i] : Int) := by simp [nth, castL, List.getD, h]
  have := elems_lt (List.getElem_mem h)
  rw [e]; omega
end Go.Zz

/- Coverings, small doubling, sizes of intersections. -/
namespace Go.Zz
open Go.RowKit Go.Proofs
set_option maxHeartbeats 400000

theorem ints_two (w : World) (a b : Int) (T : TypeId) : Ints (w.alloc (.cells #[.int .i64 a, .int .i64 b] T)) (.slice (some ⟨w.heap.size, 0, none⟩) 2 2) [a, b] := by
  refine ⟨_, 2, rfl, Nat.le_refl _, by simp, fun i hi => ⟨_, rfl, ?_⟩⟩
  match i, hi with
  | 0, _ => simp [go_sem, nth, Addr.add]
  | 1, _ => simp [go_sem, nth, Addr.add]
theorem areF_two (l : List Int) (a b : Int) : areF l [a, b] = (isSetB l a && isSetB l b) := by
  unfold areF
  cases h : isSetB l a
  · simp [h]
  · simp [h, isSetB_grp h]
/-- whether the shifts of a by x fill the group -/
def covF (l : List Int) (a x : Int) : Bool := isSetB l a && isSetB l x && decide ((sumF l a.toNat x.toNat : Int) = fullF l)
theorem covF_no {l : List Int} {a x : Int} (h : (isSetB l a && isSetB l x) = false) : covF l a x = false := by unfold covF; rw [h]; rfl
theorem covF_yes {l : List Int} {a x : Nat} (h : (isSetB l a && isSetB l x) = true) : covF l a x = ((sumF l a x : Int) == fullF l) := by
  unfold covF; rw [h, Bool.eq_iff_iff]; simp
end Go.Zz

/- Coverings (the reference), small doubling, sizes of intersections. -/
namespace Go.Zz
open Go.RowKit Go.Proofs
set_option maxHeartbeats 400000




/-- whether twice the size of a + a is less than three times that of a -/
def smallF (l : List Int) (a : Int) : Bool := isSetB l a && decide (a ≠ 0) && decide (2 * cnt (sumF l a.toNat a.toNat) < 3 * cnt a.toNat)
theorem smallF_no {l : List Int} {a : Int} (h : isSetB l a = false) : smallF l a = false := by unfold smallF; rw [h]; rfl
theorem smallF_zero (l : List Int) : smallF l 0 = false := by unfold smallF; simp
theorem smallF_yes {l : List Int} {n : Nat} (h : isSetB l n = true) (h0 : 0 < n) : smallF l n = decide (2 * (cnt (sumF l n n) : Int) < 3 * (cnt n : Int)) := by
  unfold smallF
  rw [h, Bool.eq_iff_iff]
  simp
  omega

/-- the sizes of the intersections of a with the shifts of b -/
def interTo (l : List Int) (a b k : Nat) : List Int := castL ((List.range k).map (fun x => cnt (a &&& shiftF l b x)))
def interF (l : List Int) (a b : Int) : List Int := if isSetB l a && isSetB l b then interTo l a.toNat b.toNat (ord l) else []
theorem interTo_zero (l : List Int) (a b : Nat) : interTo l a b 0 = [] := rfl
theorem interTo_succ (l : List Int) (a b k : Nat) : interTo l a b (k + 1) = interTo l a b k ++ [(cnt (a &&& shiftF l b k) : Int)] := by
  unfold interTo; rw [List.range_succ, List.map_append]; exact castL_snoc _ _
theorem interTo_len (l : List Int) (a b k : Nat) : (interTo l a b k).length = k := by simp [interTo, castL]
theorem interF_no {l : List Int} {a b : Int} (h : (isSetB l a && isSetB l b) = false) : interF l a b = [] := by unfold interF; rw [h]; rfl
theorem interF_yes {l : List Int} {a b : Nat} (h : (isSetB l a && isSetB l b) = true) : interF l a b = interTo l a b (ord l) := by unfold interF; rw [h]; rfl
end Go.Zz

/- ListOf of both. -/
namespace Go.Zz
open Go.RowKit Go.Proofs
set_option maxHeartbeats 400000
set_option maxRecDepth 4000

def loF (l : List Int) (a : Int) : List Int := if isSetB l a then castL (elems a.toNat) else []
theorem loF_no {l : List Int} {a : Int} (h : isSetB l a = false) : loF l a = [] := by unfold loF; rw [h]; rfl
theorem loF_nat {l : List Int} {n : Nat} (h : isSetB l n = true) : loF l n = castL (elems n) := by unfold loF; rw [h]; rfl
end Go.Zz

/- ListOf and FormatSet of the reference. -/
namespace Go.Zz
open Go.RowKit Go.Proofs
set_option maxHeartbeats 400000
set_option maxRecDepth 4000

theorem loF_in (l : List Int) (a : Int) (i : Nat) (h : i < (loF l a).length) : -1 ≤ nth (loF l a) i ∧ nth (loF l a) i < 1000000000000 := by
  cases hs : isSetB l a
  · rw [loF_no hs] at h; simp at h
  · obtain ⟨n, rfl, -, hn, -⟩ := isSetB_nat hs
    rw [loF_nat hs] at h ⊢
    exact elems_in n i h
theorem loF_len (l : List Int) (a : Int) : (loF l a).length ≤ 24 := by
  unfold loF
  split
  · rw [castL_len]; exact elems_len _
  · simp
theorem fsF_lo (l : List Int) (a : Int) : fsF l a = if (loF l a).length = 0 then (if isSetB l a then ⟨#[110, 111, 110, 101]⟩ else ⟨#[]⟩) else jn comma (fun i => fmtB (nth (loF l a) i)) (loF l a).length := by
  cases hs : isSetB l a
  · rw [fsF_no hs, loF_no hs]; rfl
  · unfold fsF loF
    rw [hs]
    show numF _ = _
    unfold numF
    rfl
end Go.Zz

/- FormatGroup of the program. -/
namespace Go.Zz
open Go.RowKit Go.Proofs
set_option maxHeartbeats 400000
set_option maxRecDepth 4000

def ex : ByteArray := ⟨#[120]⟩
def fgF (l : List Int) : ByteArray := if isGrp l then (if l.length = 0 then ⟨#[49]⟩ else jn ex (fun i => fmtB (nth l i)) l.length) else ⟨#[]⟩
theorem fgF_no {l : List Int} (h : isGrp l = false) : fgF l = ⟨#[]⟩ := by unfold fgF; rw [h]; rfl
theorem fgF_yes {l : List Int} (h : isGrp l = true) : fgF l = if l.length = 0 then ⟨#[49]⟩ else jn ex (fun i => fmtB (nth l i)) l.length := by unfold fgF; rw [h]; rfl
theorem grp_in {l : List Int} (h : isGrp l = true) (i : Nat) (hi : i < l.length) : -1 ≤ nth l i ∧ nth l i < 1000000000000 := by
  have := isGrp_nth h hi; omega
--%call FormatGroup 24 ext FormatGroup_any _ _ _ ({0})
theorem FormatGroup_any (v : Value) (l : List Int) (w : World) (h : Ints w v l) :
    Calls Try.prog 24 #[.agg #[v]] w fun e w' => e = .returned (.string (fgF l)) ∧ Ext w w' := by
  have hop := h.op
  have hE0 := (Ext.refl w).alloc (.cells #[v] 27)
  have hE := Ext.refl (w.alloc (.cells #[v] 27))
  have hb := box_cell w v 27
  have hg : ∀ W, Ext (w.alloc (.cells #[v] 27)) W → Ints W v l := fun W hW => h.ext (hE0.trans hW)
  clear h
  obtain ⟨ao, c, adr, rfl, hlen, hadr, hcell⟩ := hop
  have hix := ints_index (c := c) elI szI hadr
  clear hadr
  cases hgr : isGrp l
  · have He := Lib.hid (fgF_no hgr)
    go_enter Try.func24, Try.ntmps24
    go_wp2_with (first | (go_at_call 21; refine (IsGroup_any _ _ _ (hg _ hE)).mono ?_; rintro e w' ⟨rfl, hE'⟩; replace hE := hE.trans hE'; clear hE'))
    go_ret
    exact ⟨ret_str He.out.symm, hE0.trans hE⟩
  · have Hf := Lib.hid (fgF_yes hgr)
    have Hr := Lib.hid (grp_in hgr)
    by_cases h0 : l.length = 0
    · have He : Hid (fgF l = ⟨#[49]⟩) := Lib.hid (Hf.out.trans (if_pos h0))
      have h00 : ((l.length : Int) == 0) = true := by rw [beq_iff_eq]; omega
      clear h0 Hf
      go_enter Try.func24, Try.ntmps24
      go_wp2_with (first | (go_at_call 21; refine (IsGroup_any _ _ _ (hg _ hE)).mono ?_; rintro e w' ⟨rfl, hE'⟩; replace hE := hE.trans hE'; clear hE'))
      go_ret
      exact ⟨ret_str He.out.symm, hE0.trans hE⟩
    · have h00 : ((l.length : Int) == 0) = false := by rw [beq_eq_false_iff_ne]; omega
      go_enter Try.func24, Try.ntmps24
      go_wp2_with (go_at_call 21; refine (IsGroup_any _ _ _ (hg _ hE)).mono ?_; rintro e wq ⟨rfl, hE1⟩; have hb2 := hb _ ((hE.trans hE1).alloc (.cells #[] 9)))
      have He : Hid (fgF l = jn ex (nthS (l.map fmtB)) l.length) := Lib.hid ((Hf.out.trans (if_neg h0)).trans (jn_congr _ _ _ _ fun i hi => (nthS_map l i hi).symm))
      have hlen3 : l.length ≤ 3 := isGrp_len hgr
      clear hb2
      have hO0 := ownS_made (Ext.refl wq)
      have hEq0 := (Ext.refl wq).alloc (.cells #[] 9)
      go_loopw [3, 17] (fun v i wr => ∃ k : Nat, k ≤ l.length ∧ i = .int .i64 k ∧ OwnS wq wr v ((l.take k).map fmtB) ∧ Ext wq wr) (fun _ i _ => l.length - (intOf i).toNat)
      case atStart => exact ⟨0, by omega, rfl, hO0, hEq0⟩
      case round =>
        obtain ⟨k, hk, rfl, hO, hEr⟩ := hrel
        by_cases hlt : k < l.length
        · have hck := hcell k _ hlt ((hE0.trans hE1).trans hEr)
          have hcI := FormatInt_any (nth l k) (Hr.out k hlt)
          have hlk : ((l.take k).map fmtB).length < 1000000 := by rw [List.length_map, List.length_take]; omega
          go_wp2_with (first | (go_at_call 25; with_reducible refine (hcI _).mono ?_; rintro e wc ⟨rfl, hEc⟩) | (at_builtin; refine wp_append1S rfl _ _ rfl wq _ _ _ _ (hO.ext hEc) (hEr.trans hEc) hlk rfl rfl ?_; intro v1 w1 hO1 hEd))
          go_roundw
          case rel => exact ⟨k + 1, by omega, by go_num, by rw [take_fmt _ _ hlt]; exact hO1, hEd⟩
          case measure => (simp [intOf]; omega)
        · have hkl : k = l.length := by omega
          subst hkl
          rw [List.take_length] at hO
          have hS := hO.strs
          have hc := glued_any _ (l.map fmtB) ex _ hS (by decide) (fun i hi => by
            rw [List.length_map] at hi
            rw [nthS_map l i hi]; exact fmtB_size (Hr.out i hi))
          go_wp2_with (refine hc.mono ?_; rintro e w1 ⟨rfl, rfl⟩)
          go_ret
          exact ⟨ret_str He.out.symm, (hE0.trans hE1).trans hEr⟩
end Go.Zz

/- FormatGroup of the reference. -/
namespace Go.Zz
open Go.RowKit Go.Proofs
set_option maxHeartbeats 400000
set_option maxRecDepth 4000

theorem sFormatGroup_no (v : Value) (l : List Int) (w : World) (h : Ints w v l) (hgr : isGrp l = false) :
    Calls Try.prog 12 #[.agg #[v]] w fun e w' => e = .returned (.string (fgF l)) ∧ Ext w w' := by
  have hop := h.op
  have hE0 := (Ext.refl w).alloc (.cells #[v] 27)
  have hE := Ext.refl (w.alloc (.cells #[v] 27))
  have hb := box_cell w v 27
  have hg : ∀ W, Ext (w.alloc (.cells #[v] 27)) W → Ints W v l := fun W hW => h.ext (hE0.trans hW)
  clear h
  obtain ⟨ao, c, adr, rfl, hlen, -, -⟩ := hop
  have He := Lib.hid (fgF_no hgr)
  have hcG := fun W (hW : Ext (w.alloc (.cells #[.slice ao l.length c] 27)) W) => sIsGroup_any _ l W (hg W hW)
  rw [hgr] at hcG
  go_enter Try.func12, Try.ntmps12
  go_wp2_with fail
  go_loopw [3, 4] (fun s i wr => i = .int .i64 0 ∧ s = .string ⟨#[]⟩ ∧ Ext (w.alloc (.cells #[.slice ao l.length c] 27)) wr) (fun _ _ _ => 0)
  case atStart => exact ⟨rfl, rfl, Ext.refl _⟩
  case round =>
    obtain ⟨rfl, rfl, hEr⟩ := hrel
    have hbr := hb _ hEr
    by_cases hp : 0 < (l.length : Int)
    · have hpB : decide (0 < (l.length : Int)) = true := by simpa using hp
      go_wp2_with (first | (refine (hcG _ (hEr.trans hE3)).mono ?_; rintro e w4 ⟨rfl, hE4⟩) | (refine (hcG _ hEr).mono ?_; rintro e w3 ⟨rfl, hE3⟩; have hbr3 := hb _ (hEr.trans hE3)))
      go_ret
      exact ⟨ret_str He.out.symm, ((hE0.trans hEr).trans hE3).trans hE4⟩
    · have hpB : decide (0 < (l.length : Int)) = false := by simpa using hp
      go_wp2_with (refine (hcG _ hEr).mono ?_; rintro e w3 ⟨rfl, hE3⟩)
      go_ret
      exact ⟨ret_str He.out.symm, (hE0.trans hEr).trans hE3⟩
theorem sFormatGroup_yes (v : Value) (l : List Int) (w : World) (h : Ints w v l) (hgr : isGrp l = true) :
    Calls Try.prog 12 #[.agg #[v]] w fun e w' => e = .returned (.string (fgF l)) ∧ Ext w w' := by
  have hop := h.op
  have hE0 := (Ext.refl w).alloc (.cells #[v] 27)
  have hE := Ext.refl (w.alloc (.cells #[v] 27))
  have hb := box_cell w v 27
  have hg : ∀ W, Ext (w.alloc (.cells #[v] 27)) W → Ints W v l := fun W hW => h.ext (hE0.trans hW)
  clear h
  obtain ⟨ao, c, adr, rfl, hlen, hadr, hcell⟩ := hop
  have hix := ints_index (c := c) elI szI hadr
  clear hadr
  have Hf := Lib.hid (fgF_yes hgr)
  have Hr := Lib.hid (grp_in hgr)
  have hcG := fun W (hW : Ext (w.alloc (.cells #[.slice ao l.length c] 27)) W) => sIsGroup_any _ l W (hg W hW)
  have hl3 := isGrp_len hgr
  rw [hgr] at hcG
  go_enter Try.func12, Try.ntmps12
  go_wp2_with fail
  go_loopw [3, 4] (fun s i wr => ∃ (k : Nat) (t : ByteArray), k ≤ l.length ∧ i = .int .i64 k ∧ s = .string t ∧ Hid (t = jn ex (fun i => fmtB (nth l i)) k) ∧ Ext (w.alloc (.cells #[.slice ao l.length c] 27)) wr) (fun _ i _ => l.length - (intOf i).toNat)
  case atStart => exact ⟨0, _, by omega, rfl, rfl, Lib.hid rfl, Ext.refl _⟩
  case round =>
    obtain ⟨k, t, hk, rfl, rfl, Ht, hEr⟩ := hrel
    have hbr := hb _ hEr
    have hts : t.size ≤ 14 * k := by rw [Ht.out]; exact jn_size _ _ (by decide) k fun i hi => fmtB_size (Hr.out i (by omega))
    by_cases hlt : k < l.length
    · have hcF := sFormatInt_any (nth l k) (Hr.out k hlt)
      have hsz : (fmtB (nth l k)).size ≤ 13 := fmtB_size (Hr.out k hlt)
      obtain ⟨u, hu⟩ : ∃ u, u = fmtB (nth l k) := ⟨_, rfl⟩
      rw [← hu] at hsz hcF
      have He := Lib.hid hu
      clear hu
      by_cases hk0 : 0 < k
      · have hk1 : (0:Int) < k := by omega
        go_wp2_with (first | (go_at_call 13; refine (hcF _).mono ?_; rintro e w4 ⟨rfl, hE4⟩) | (refine (hcG _ hEr).mono ?_; rintro e w3 ⟨rfl, hE3⟩; have hbr3 := hb _ (hEr.trans hE3); have hck3 := hcell k _ hlt ((hE0.trans hEr).trans hE3)))
        go_roundw
        case rel => exact ⟨k + 1, _, by omega, by go_num, rfl, Lib.hid (by rw [jn_next _ _ hk0, ← Ht.out, He.out]; rfl), (hEr.trans hE3).trans hE4⟩
        case measure => (simp [intOf]; omega)
      · have hk1 : k = 0 := by omega
        subst hk1
        have hix0 : ∀ W, (Instr.indexAt 22 (.slice ao l.length c) (.int .i64 0)).run Try.prog W = .ok (.pointer (some (adr 0))) W := fun W => by simpa using hix 0 W hlt
        go_wp2_with (first | (go_at_call 13; refine (hcF _).mono ?_; rintro e w4 ⟨rfl, hE4⟩) | (refine (hcG _ hEr).mono ?_; rintro e w3 ⟨rfl, hE3⟩; have hbr3 := hb _ (hEr.trans hE3); have hck3 := hcell 0 _ hlt ((hE0.trans hEr).trans hE3)))
        go_roundw
        case rel => exact ⟨1, _, by omega, rfl, rfl, Lib.hid (by rw [jn_first, He.out, Ht.out]; rfl), (hEr.trans hE3).trans hE4⟩
        case measure => (simp [intOf]; omega)
    · have hkl : k = l.length := by omega
      subst hkl
      have hER := hE0.trans hEr
      have hcS := hcG _ hEr
      by_cases h0 : l.length = 0
      · have ht0 : t = ⟨#[]⟩ := by rw [Ht.out, h0]; rfl
        subst ht0
        have Hf2 : Hid (fgF l = ⟨#[49]⟩) := Lib.hid (by rw [Hf.out, if_pos h0])
        clear h0 hts Hf
        go_wp2_with (refine hcS.mono ?_; rintro e w3 ⟨rfl, hE3⟩)
        go_ret
        exact ⟨ret_str Hf2.out.symm, hER.trans hE3⟩
      · have He : Hid (fgF l = t) := Lib.hid (by rw [Hf.out, if_neg h0, Ht.out])
        have h1 := jn_some ex (fun i => fmtB (nth l i)) l.length (by omega) fun i hi => fmtB_some (Hr.out i hi)
        rw [← Ht.out] at h1
        have ht1 := str_some h1
        go_wp2_with fail
        go_ret
        exact ⟨ret_str He.out.symm, hER⟩
theorem sFormatGroup_any (v : Value) (l : List Int) (w : World) (h : Ints w v l) :
    Calls Try.prog 12 #[.agg #[v]] w fun e w' => e = .returned (.string (fgF l)) ∧ Ext w w' := by
  cases hg : isGrp l
  · exact sFormatGroup_no v l w h hg
  · exact sFormatGroup_yes v l w h hg
end Go.Zz
