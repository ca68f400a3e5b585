/- Claims: equal ones, marks in what they hold. -/
import Derived.Test.YtopokpamhojooaaC35
namespace Go.Zz
open Go.RowKit Go.Proofs
set_option maxHeartbeats 2000000

/-- two values own no block together -/
def Apart (x y : Value) : Prop := ∀ k, x.ownBlock = some k → y.ownBlock ≠ some k
theorem Apart.symm {x y : Value} (h : Apart x y) : Apart y x := fun k hk e => h k e hk
theorem Apart.or {x y : Value} (h : Apart x y) : x.ownBlock = none ∨ x.ownBlock ≠ y.ownBlock := by
  cases hx : x.ownBlock with
  | none => exact Or.inl rfl
  | some k => exact Or.inr fun e => h k hx e.symm
theorem Apart.nil_left (y : Value) : Apart (.slice none 0 0) y := fun k hk => by cases hk
theorem Apart.nil_right (x : Value) : Apart x (.slice none 0 0) := fun k _ h => by cases h
theorem apart_of {TI : TypeId} {a b c d : World} {u v : Value} {l m : List Int} (h : Own TI a b u l) (k : Own TI c d v m) (hs : b.heap.size ≤ c.heap.size) : Apart u v := fun i hi e => by
  have h1 := (h.blk i hi).2
  have h2 := (k.blk i e).1
  omega
/-- four slices that are owned, apart from each other -/
structure Own4 (w0 w : World) (v1 v2 v3 v4 : Value) (g o t q : List Int) : Prop where
  h1 : Own 3 w0 w v1 g
  h2 : Own 3 w0 w v2 o
  h3 : Own 3 w0 w v3 t
  h4 : Own 3 w0 w v4 q
  d12 : Apart v1 v2
  d13 : Apart v1 v3
  d14 : Apart v1 v4
  d23 : Apart v2 v3
  d24 : Apart v2 v4
  d34 : Apart v3 v4
theorem Own4.ext {w0 w w' : World} {v1 v2 v3 v4 : Value} {g o t q : List Int} (h : Own4 w0 w v1 v2 v3 v4 g o t q) (hE : Ext w w') : Own4 w0 w' v1 v2 v3 v4 g o t q :=
  ⟨h.h1.ext hE, h.h2.ext hE, h.h3.ext hE, h.h4.ext hE, h.d12, h.d13, h.d14, h.d23, h.d24, h.d34⟩
theorem Own4.mono {w0 w1 w : World} {v1 v2 v3 v4 : Value} {g o t q : List Int} (h : Own4 w1 w v1 v2 v3 v4 g o t q) (hE : Ext w0 w1) : Own4 w0 w v1 v2 v3 v4 g o t q :=
  ⟨h.h1.mono hE, h.h2.mono hE, h.h3.mono hE, h.h4.mono hE, h.d12, h.d13, h.d14, h.d23, h.d24, h.d34⟩
/-- the slices of a claim read as lists -/
structure Ints4 (w : World) (v1 v2 v3 v4 : Value) (g o t q : List Int) : Prop where
  g : Ints w v1 g
  o : Ints w v2 o
  t : Ints w v3 t
  q : Ints w v4 q
theorem Ints4.ext {w w' : World} {v1 v2 v3 v4 : Value} {g o t q : List Int} (h : Ints4 w v1 v2 v3 v4 g o t q) (hE : Ext w w') : Ints4 w' v1 v2 v3 v4 g o t q :=
  ⟨h.g.ext hE, h.o.ext hE, h.t.ext hE, h.q.ext hE⟩
theorem Own4.ints {w0 w : World} {v1 v2 v3 v4 : Value} {g o t q : List Int} (h : Own4 w0 w v1 v2 v3 v4 g o t q) : Ints4 w v1 v2 v3 v4 g o t q := ⟨h.h1.ints, h.h2.ints, h.h3.ints, h.h4.ints⟩
/-- the slices lie below a block -/
def Below4 (v1 v2 v3 v4 : Value) (top : Nat) : Prop := ∀ k, (v1.ownBlock = some k ∨ v2.ownBlock = some k ∨ v3.ownBlock = some k ∨ v4.ownBlock = some k) → k < top
theorem Own4.below {w0 w : World} {v1 v2 v3 v4 : Value} {g o t q : List Int} (h : Own4 w0 w v1 v2 v3 v4 g o t q) : Below4 v1 v2 v3 v4 w.heap.size := by
  rintro k (hk | hk | hk | hk)
  · exact (h.h1.blk k hk).2
  · exact (h.h2.blk k hk).2
  · exact (h.h3.blk k hk).2
  · exact (h.h4.blk k hk).2
theorem Own.kept_low {TI : TypeId} {w0 w w' : World} {v : Value} {l : List Int} {row : Option Nat} (h : Own TI w0 w v l) (hg : w.grownBy w' row) (hr : ∀ k, row = some k → k < w0.heap.size) : Own TI w0 w' v l :=
  h.kept hg (by
    cases hq : v.ownBlock with
    | none => exact Or.inl rfl
    | some k => exact Or.inr fun e => by have := hr k e.symm; have := (h.blk k hq).1; omega)
theorem Own.kept_high {TI : TypeId} {w0 w w' : World} {v : Value} {l : List Int} {row : Option Nat} (h : Own TI w0 w v l) (hg : w.grownBy w' row) (hr : ∀ k, row = some k → v.ownBlock ≠ some k) : Own TI w0 w' v l :=
  h.kept hg (by
    cases hq : v.ownBlock with
    | none => exact Or.inl rfl
    | some k => exact Or.inr fun e => hr k e.symm hq)
theorem Own4.kept {w0 w w' : World} {v1 v2 v3 v4 : Value} {g o t q : List Int} {row : Option Nat} (h : Own4 w0 w v1 v2 v3 v4 g o t q) (hg : w.grownBy w' row) (hr : ∀ k, row = some k → k < w0.heap.size) : Own4 w0 w' v1 v2 v3 v4 g o t q :=
  ⟨h.h1.kept_low hg hr, h.h2.kept_low hg hr, h.h3.kept_low hg hr, h.h4.kept_low hg hr, h.d12, h.d13, h.d14, h.d23, h.d24, h.d34⟩
/-- a value of type Claim -/
def CV (k : Int) (v1 v2 : Value) (a b s p : Int) (v3 v4 : Value) (n : Int) : Value := .agg #[.int .i64 k, v1, v2, .int .i64 a, .int .i64 b, .int .i64 s, .int .i64 p, v3, v4, .int .i64 n]

theorem eqClaim_same (k a b s p n : Int) (g o t q : List Int) (v1 v2 v3 v4 u1 u2 u3 u4 : Value) (w : World) (h : Ints4 w v1 v2 v3 v4 g o t q) (h' : Ints4 w u1 u2 u3 u4 g o t q) :
    Calls Try.prog 15 #[CV k v1 v2 a b s p v3 v4 n, CV k u1 u2 a b s p u3 u4 n] w fun e w' => e = .returned (.bool true) ∧ Ext w w' := by
  unfold CV
  obtain ⟨wb, hwb⟩ : ∃ wb, wb = (w.alloc (.cells #[.int .i64 k, v1, v2, .int .i64 a, .int .i64 b, .int .i64 s, .int .i64 p, v3, v4, .int .i64 n] 32)).alloc (.cells #[.int .i64 k, u1, u2, .int .i64 a, .int .i64 b, .int .i64 s, .int .i64 p, u3, u4, .int .i64 n] 32) := ⟨_, rfl⟩
  have e0 : Ext w wb := by rw [hwb]; exact ((Ext.refl _).alloc _).alloc _
  have B0 : Blk wb w.heap.size 32 #[.int .i64 k, v1, v2, .int .i64 a, .int .i64 b, .int .i64 s, .int .i64 p, v3, v4, .int .i64 n] := by rw [hwb]; exact (Blk.new _ _ _).alloc _
  have B1 : Blk wb (w.heap.size + 1) 32 #[.int .i64 k, u1, u2, .int .i64 a, .int .i64 b, .int .i64 s, .int .i64 p, u3, u4, .int .i64 n] := by rw [hwb]; simpa using Blk.new (w.alloc (.cells #[.int .i64 k, v1, v2, .int .i64 a, .int .i64 b, .int .i64 s, .int .i64 p, v3, v4, .int .i64 n] 32)) 32 #[.int .i64 k, u1, u2, .int .i64 a, .int .i64 b, .int .i64 s, .int .i64 p, u3, u4, .int .i64 n]
  have H := Lib.hid (fun W (hW : Ext wb W) => h.ext (e0.trans hW))
  have H' := Lib.hid (fun W (hW : Ext wb W) => h'.ext (e0.trans hW))
  have hE := Ext.refl wb
  have Hwb := Lib.hid hwb
  clear hwb h h'
  go_enter Try.func15, Try.ntmps15
  go_wp2_with fail
  rw [← Hwb.out]
  refine (eqGroup_any _ _ _ _ _ (H.out _ hE).g (H'.out _ hE).g).mono ?_
  rintro e w1 ⟨rfl, hE'⟩
  replace hE := hE.trans hE'
  clear hE'
  have m2 := (B0.ext hE).cell (i := 2) (v := v2) rfl
  have n2 := (B1.ext hE).cell (i := 2) (v := u2) rfl
  go_wp2_with fail
  refine (eqGroup_any _ _ _ _ _ (H.out _ hE).o (H'.out _ hE).o).mono ?_
  rintro e w2 ⟨rfl, hE'⟩
  replace hE := hE.trans hE'
  clear hE' m2 n2
  have m3 := (B0.ext hE).cell (i := 3) (v := .int .i64 a) rfl
  have n3 := (B1.ext hE).cell (i := 3) (v := .int .i64 a) rfl
  have m4 := (B0.ext hE).cell (i := 4) (v := .int .i64 b) rfl
  have n4 := (B1.ext hE).cell (i := 4) (v := .int .i64 b) rfl
  have m5 := (B0.ext hE).cell (i := 5) (v := .int .i64 s) rfl
  have n5 := (B1.ext hE).cell (i := 5) (v := .int .i64 s) rfl
  have m6 := (B0.ext hE).cell (i := 6) (v := .int .i64 p) rfl
  have n6 := (B1.ext hE).cell (i := 6) (v := .int .i64 p) rfl
  have m7 := (B0.ext hE).cell (i := 7) (v := v3) rfl
  have n7 := (B1.ext hE).cell (i := 7) (v := u3) rfl
  go_wp2_with fail
  refine (eqIntS_any _ _ _ _ _ (H.out _ hE).t (H'.out _ hE).t).mono ?_
  rintro e w3 ⟨rfl, hE'⟩
  replace hE := hE.trans hE'
  clear hE' m3 n3 m4 n4 m5 n5 m6 n6 m7 n7
  have m8 := (B0.ext hE).cell (i := 8) (v := v4) rfl
  have n8 := (B1.ext hE).cell (i := 8) (v := u4) rfl
  go_wp2_with fail
  refine (eqIntS_any _ _ _ _ _ (H.out _ hE).q (H'.out _ hE).q).mono ?_
  rintro e w4 ⟨rfl, hE'⟩
  replace hE := hE.trans hE'
  clear hE' m8 n8
  have m9 := (B0.ext hE).cell (i := 9) (v := .int .i64 n) rfl
  have n9 := (B1.ext hE).cell (i := 9) (v := .int .i64 n) rfl
  go_wp2_with fail
  go_ret
  exact ⟨rfl, e0.trans hE⟩
theorem markClaim_any (k a b s p n k0 : Int) (g o t q : List Int) (v1 v2 v3 v4 : Value) (w0 w : World) (top : Nat) (h : Own4 w0 w v1 v2 v3 v4 g o t q) (hT : Below4 v1 v2 v3 v4 top) (hsz : top ≤ w.heap.size) (h1 : 0 ≤ k0) (h2 : k0 ≤ 1048576) (hg : g.length ≤ 1050000) (ho : o.length ≤ 1050000) (ht : t.length ≤ 1050000) :
    Calls Try.prog 18 #[CV k v1 v2 a b s p v3 v4 n, .int .i64 k0] w fun e w' => e = .returned (.int .i64 (k0 + g.length + o.length + t.length + q.length)) ∧
      Own4 w0 w' v1 v2 v3 v4 (marks k0 g.length) (marks (k0 + g.length) o.length) (marks (k0 + g.length + o.length) t.length) (marks (k0 + g.length + o.length + t.length) q.length) ∧
      (∀ b, Ext b w → b.heap.size ≤ w0.heap.size → Ext b w') ∧ (∀ wz v' l', top ≤ wz.heap.size → Own 3 wz w v' l' → Own 3 wz w' v' l') ∧ (∀ b T cs, top ≤ b → Blk w b T cs → Blk w' b T cs) := by
  unfold CV
  have hv1 := h.h1.alloc (.cells #[.int .i64 k, v1, v2, .int .i64 a, .int .i64 b, .int .i64 s, .int .i64 p, v3, v4, .int .i64 n] 32)
  have hv2 := h.h2.alloc (.cells #[.int .i64 k, v1, v2, .int .i64 a, .int .i64 b, .int .i64 s, .int .i64 p, v3, v4, .int .i64 n] 32)
  have hv3 := h.h3.alloc (.cells #[.int .i64 k, v1, v2, .int .i64 a, .int .i64 b, .int .i64 s, .int .i64 p, v3, v4, .int .i64 n] 32)
  have hv4 := h.h4.alloc (.cells #[.int .i64 k, v1, v2, .int .i64 a, .int .i64 b, .int .i64 s, .int .i64 p, v3, v4, .int .i64 n] 32)
  have B0 := Blk.new w 32 #[.int .i64 k, v1, v2, .int .i64 a, .int .i64 b, .int .i64 s, .int .i64 p, v3, v4, .int .i64 n]
  have c1 : ∀ j, v1.ownBlock = some j → w0.heap.size ≤ j ∧ j < top := fun j hj => ⟨(h.h1.blk j hj).1, hT j (Or.inl hj)⟩
  have c2 : ∀ j, v2.ownBlock = some j → w0.heap.size ≤ j ∧ j < top := fun j hj => ⟨(h.h2.blk j hj).1, hT j (Or.inr (Or.inl hj))⟩
  have c3 : ∀ j, v3.ownBlock = some j → w0.heap.size ≤ j ∧ j < top := fun j hj => ⟨(h.h3.blk j hj).1, hT j (Or.inr (Or.inr (Or.inl hj)))⟩
  have c4 : ∀ j, v4.ownBlock = some j → w0.heap.size ≤ j ∧ j < top := fun j hj => ⟨(h.h4.blk j hj).1, hT j (Or.inr (Or.inr (Or.inr hj)))⟩
  obtain ⟨-, -, -, -, d12, d13, d14, d23, d24, d34⟩ := h
  go_enter Try.func18, Try.ntmps18
  go_wp2_with fail
  refine (markGroup_any _ _ _ _ _ hv1 h1 (by omega)).mono ?_
  rintro e w1 ⟨rfl, hv1, hG1⟩
  replace hv2 := hv2.kept hG1 d12.symm.or
  replace hv3 := hv3.kept hG1 d13.symm.or
  replace hv4 := hv4.kept hG1 d14.symm.or
  have B1 := B0.grown hG1 (fun j hj => by have := (c1 j hj).2; omega)
  have z := B1.cell (i := 2) (v := v2) rfl
  go_wp2_with fail
  refine (markGroup_any _ _ _ _ _ hv2 (by omega) (by omega)).mono ?_
  rintro e w2 ⟨rfl, hv2, hG2⟩
  replace hv1 := hv1.kept hG2 d12.or
  replace hv3 := hv3.kept hG2 d23.symm.or
  replace hv4 := hv4.kept hG2 d24.symm.or
  have B2 := B1.grown hG2 (fun j hj => by have := (c2 j hj).2; omega)
  clear z
  have z := B2.cell (i := 7) (v := v3) rfl
  go_wp2_with fail
  refine (markIntS_any _ _ _ _ _ hv3 (by omega) (by omega)).mono ?_
  rintro e w3 ⟨rfl, hv3, hG3⟩
  replace hv1 := hv1.kept hG3 d13.or
  replace hv2 := hv2.kept hG3 d23.or
  replace hv4 := hv4.kept hG3 d34.symm.or
  have B3 := B2.grown hG3 (fun j hj => by have := (c3 j hj).2; omega)
  clear z
  have z := B3.cell (i := 8) (v := v4) rfl
  go_wp2_with fail
  refine (markIntS_any _ _ _ _ _ hv4 (by omega) (by omega)).mono ?_
  rintro e w4 ⟨rfl, hv4, hG4⟩
  replace hv1 := hv1.kept hG4 d14.or
  replace hv2 := hv2.kept hG4 d24.or
  replace hv3 := hv3.kept hG4 d34.or
  go_wp2_with fail
  go_ret
  refine ⟨rfl, ⟨hv1, hv2, hv3, hv4, d12, d13, d14, d23, d24, d34⟩, fun b hb hbs => ?_, fun wz v' l' hz hO => ?_, fun b T cs hb hB => ?_⟩
  · exact ((((hb.alloc _).grown hG1 (fun j hj => Nat.le_trans hbs (c1 j hj).1)).grown hG2 (fun j hj => Nat.le_trans hbs (c2 j hj).1)).grown hG3 (fun j hj => Nat.le_trans hbs (c3 j hj).1)).grown hG4 (fun j hj => Nat.le_trans hbs (c4 j hj).1)
  · exact ((((hO.alloc _).kept_low hG1 (fun j hj => Nat.lt_of_lt_of_le (c1 j hj).2 hz)).kept_low hG2 (fun j hj => Nat.lt_of_lt_of_le (c2 j hj).2 hz)).kept_low hG3 (fun j hj => Nat.lt_of_lt_of_le (c3 j hj).2 hz)).kept_low hG4 (fun j hj => Nat.lt_of_lt_of_le (c4 j hj).2 hz)
  · exact ((((hB.alloc _).grown hG1 (fun j hj => by have := (c1 j hj).2; omega)).grown hG2 (fun j hj => by have := (c2 j hj).2; omega)).grown hG3 (fun j hj => by have := (c3 j hj).2; omega)).grown hG4 (fun j hj => by have := (c4 j hj).2; omega)
theorem heldClaim_any (k a b s p n k0 : Int) (c1 c2 c3 c4 : Nat) (v1 v2 v3 v4 : Value) (w : World) (h : Ints4 w v1 v2 v3 v4 (marks k0 c1) (marks (k0 + c1) c2) (marks (k0 + c1 + c2) c3) (marks (k0 + c1 + c2 + c3) c4)) (h1 : 0 ≤ k0) (h2 : k0 ≤ 1048576) (b1 : c1 ≤ 1050000) (b2 : c2 ≤ 1050000) (b3 : c3 ≤ 1050000) (b4 : c4 ≤ 1050000) :
    Calls Try.prog 19 #[CV k v1 v2 a b s p v3 v4 n, .int .i64 k0] w fun e w' => e = .returned (.int .i64 (k0 + c1 + c2 + c3 + c4)) ∧ Ext w w' := by
  unfold CV
  have hE0 := (Ext.refl w).alloc (.cells #[.int .i64 k, v1, v2, .int .i64 a, .int .i64 b, .int .i64 s, .int .i64 p, v3, v4, .int .i64 n] 32)
  have B0 := Blk.new w 32 #[.int .i64 k, v1, v2, .int .i64 a, .int .i64 b, .int .i64 s, .int .i64 p, v3, v4, .int .i64 n]
  have hp1 : ¬ k0 + (c1 : Int) < 0 := by omega
  have hp2 : ¬ k0 + (c1 : Int) + (c2 : Int) < 0 := by omega
  have hp3 : ¬ k0 + (c1 : Int) + (c2 : Int) + (c3 : Int) < 0 := by omega
  have hp4 : ¬ k0 + (c1 : Int) + (c2 : Int) + (c3 : Int) + (c4 : Int) < 0 := by omega
  go_enter Try.func19, Try.ntmps19
  go_wp2_with fail
  refine (heldGroup_any _ _ _ _ (h.g.ext hE0) h1 (by omega)).mono ?_
  rintro e w1 ⟨rfl, hE1⟩
  have z := (B0.ext hE1).cell (i := 2) (v := v2) rfl
  go_wp2_with fail
  refine (heldGroup_any _ _ _ _ (h.o.ext (hE0.trans hE1)) (by omega) (by omega)).mono ?_
  rintro e w2 ⟨rfl, hE2⟩
  clear z
  have z := (B0.ext (hE1.trans hE2)).cell (i := 7) (v := v3) rfl
  have z8 := (B0.ext (hE1.trans hE2)).cell (i := 8) (v := v4) rfl
  go_wp2_with fail
  refine (heldIntS_any _ _ _ _ (h.t.ext (hE0.trans (hE1.trans hE2))) (by omega) (by omega)).mono ?_
  rintro e w3 ⟨rfl, rfl⟩
  go_wp2_with fail
  refine (heldIntS_any _ _ _ _ (h.q.ext (hE0.trans (hE1.trans hE2))) (by omega) (by omega)).mono ?_
  rintro e w4 ⟨rfl, rfl⟩
  go_wp2_with fail
  go_ret
  exact ⟨rfl, hE0.trans (hE1.trans hE2)⟩
end Go.Zz
