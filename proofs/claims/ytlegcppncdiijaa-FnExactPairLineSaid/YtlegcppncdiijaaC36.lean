/- Claims: equal ones, marks in what they hold. -/
import Derived.Test.YtlegcppncdiijaaC35
namespace Go.Zz
open Go.RowKit Go.Proofs
set_option maxHeartbeats 2000000

/-- two values own no block together -/
def Apart (x y : Value) : Prop := ∀ k, x.ownBlock = some k → y.ownBlock ≠ some k
theorem Apart.symm {x y : Value} (h : Apart x y) : Apart y x := fun k hk e => h k e hk
theorem Apart.or {x y : Value} (h : Apart x y) : x.ownBlock = none ∨ x.ownBlock ≠ y.ownBlock := by
  cases hx : x.ownBlock with
  | none => exact Or.inl rfl
  | some k => exact Or.inr fun e => h k hx e.symm
theorem Apart.nil_left (y : Value) : Apart (.slice none 0 0) y := fun k hk => by cases hk
theorem Apart.nil_right (x : Value) : Apart x (.slice none 0 0) := fun k _ h => by cases h
theorem apart_of {TI : TypeId} {a b c d : World} {u v : Value} {l m : List Int} (h : Own TI a b u l) (k : Own TI c d v m) (hs : b.heap.size ≤ c.heap.size) : Apart u v := fun i hi e => by
  have h1 := (h.blk i hi).2
  have h2 := (k.blk i e).1
  omega
/-- four slices that are owned, apart from each other -/
structure Own4 (w0 w : World) (v1 v2 v3 v4 : Value) (g o t q : List Int) : Prop where
  h1 : Own 3 w0 w v1 g
  h2 : Own 3 w0 w v2 o
  h3 : Own 3 w0 w v3 t
  h4 : Own 3 w0 w v4 q
  d12 : Apart v1 v2
  d13 : Apart v1 v3
  d14 : Apart v1 v4
  d23 : Apart v2 v3
  d24 : Apart v2 v4
  d34 : Apart v3 v4
theorem Own4.ext {w0 w w' : World} {v1 v2 v3 v4 : Value} {g o t q : List Int} (h : Own4 w0 w v1 v2 v3 v4 g o t q) (hE : Ext w w') : Own4 w0 w' v1 v2 v3 v4 g o t q :=
  ⟨h.h1.ext hE, h.h2.ext hE, h.h3.ext hE, h.h4.ext hE, h.d12, h.d13, h.d14, h.d23, h.d24, h.d34⟩
theorem Own4.mono {w0 w1 w : World} {v1 v2 v3 v4 : Value} {g o t q : List Int} (h : Own4 w1 w v1 v2 v3 v4 g o t q) (hE : Ext w0 w1) : Own4 w0 w v1 v2 v3 v4 g o t q :=
  ⟨h.h1.mono hE, h.h2.mono hE, h.h3.mono hE, h.h4.mono hE, h.d12, h.d13, h.d14, h.d23, h.d24, h.d34⟩
/-- the slices of a claim read as lists -/
structure Ints4 (w : World) (v1 v2 v3 v4 : Value) (g o t q : List Int) : Prop where
  g : Ints w v1 g
  o : Ints w v2 o
  t : Ints w v3 t
  q : Ints w v4 q
theorem Ints4.ext {w w' : World} {v1 v2 v3 v4 : Value} {g o t q : List Int} (h : Ints4 w v1 v2 v3 v4 g o t q) (hE : Ext w w') : Ints4 w' v1 v2 v3 v4 g o t q :=
  ⟨h.g.ext hE, h.o.ext hE, h.t.ext hE, h.q.ext hE⟩
theorem Own4.ints {w0 w : World} {v1 v2 v3 v4 : Value} {g o t q : List Int} (h : Own4 w0 w v1 v2 v3 v4 g o t q) : Ints4 w v1 v2 v3 v4 g o t q := ⟨h.h1.ints, h.h2.ints, h.h3.ints, h.h4.ints⟩
/-- the slices lie below a block -/
def Below4 (v1 v2 v3 v4 : Value) (top : Nat) : Prop := ∀ k, (v1.ownBlock = some k ∨ v2.ownBlock = some k ∨ v3.ownBlock = some k ∨ v4.ownBlock = some k) → k < top
theorem Own4.below {w0 w : World} {v1 v2 v3 v4 : Value} {g o t q : List Int} (h : Own4 w0 w v1 v2 v3 v4 g o t q) : Below4 v1 v2 v3 v4 w.heap.size := by
  rintro k (hk | hk | hk | hk)
  · exact (h.h1.blk k hk).2
  · exact (h.h2.blk k hk).2
  · exact (h.h3.blk k hk).2
  · exact (h.h4.blk k hk).2
theorem Own.kept_low {TI : TypeId} {w0 w w' : World} {v : Value} {l : List Int} {row : Option Nat} (h : Own TI w0 w v l) (hg : w.grownBy w' row) (hr : ∀ k, row = some k → k < w0.heap.size) : Own TI w0 w' v l :=
  h.kept hg (by
    cases hq : v.ownBlock with
    | none => exact Or.inl rfl
    | some k => exact Or.inr fun e => by have := hr k e.symm; have := (h.blk k hq).1; omega)
theorem Own.kept_high {TI : TypeId} {w0 w w' : World} {v : Value} {l : List Int} {row : Option Nat} (h : Own TI w0 w v l) (hg : w.grownBy w' row) (hr : ∀ k, row = some k → v.ownBlock ≠ some k) : Own TI w0 w' v l :=
  h.kept hg (by
    cases hq : v.ownBlock with
    | none => exact Or.inl rfl
    | some k => exact Or.inr fun e => hr k e.symm hq)
theorem Own4.kept {w0 w w' : World} {v1 v2 v3 v4 : Value} {g o t q : List Int} {row : Option Nat} (h : Own4 w0 w v1 v2 v3 v4 g o t q) (hg : w.grownBy w' row) (hr : ∀ k, row = some k → k < w0.heap.size) : Own4 w0 w' v1 v2 v3 v4 g o t q :=
  ⟨h.h1.kept_low hg hr, h.h2.kept_low hg hr, h.h3.kept_low hg hr, h.h4.kept_low hg hr, h.d12, h.d13, h.d14, h.d23, h.d24, h.d34⟩
/-- a value of type Claim -/
def CV (k : Int) (v1 v2 : Value) (a b s p : Int) (v3 v4 : Value) (n : Int) : Value := .agg #[.int .i64 k, v1, v2, .int .i64 a, .int .i64 b, .int .i64 s, .int .i64 p, v3, v4, .int .i64 n]

theorem eqClaim_same (k a b s p n : Int) (g o t q : List Int) (v1 v2 v3 v4 u1 u2 u3 u4 : Value) (w : World) (h : Ints4 w v1 v2 v3 v4 g o t q) (h' : Ints4 w u1 u2 u3 u4 g o t q) :
    Calls Try.prog 18 #[CV k v1 v2 a b s p v3 v4 n, CV k u1 u2 a b s p u3 u4 n] w fun e w' => e = .returned (.bool true) ∧ Ext w w' := by
  unfold CV
  obtain ⟨wb, hwb⟩ : ∃ wb, wb = (w.alloc (.cells #[.int .i64 k, v1, v2, .int .i64 a, .int .i64 b, .int .i64 s, .int .i64 p, v3, v4, .int .i64 n] 36)).alloc (.cells #[.int .i64 k, u1, u2, .int .i64 a, .int .i64 b, .int .i64 s, .int .i64 p, u3, u4, .int .i64 n] 36) := ⟨_, rfl⟩
  have e0 : Ext w wb := by rw [hwb]; exact ((Ext.refl _).alloc _).alloc _
  have B0 : Blk wb w.heap.size 36 #[.int .i64 k, v1, v2, .int .i64 a, .int .i64 b, .int .i64 s, .int .i64 p, v3, v4, .int .i64 n] := by rw [hwb]; exact (Blk.new _ _ _).alloc _
  have B1 : Blk wb (w.heap.size + 1) 36 #[.int .i64 k, u1, u2, .int .i64 a, .int .i64 b, .int .i64 s, .int .i64 p, u3, u4, .int .i64 n] := by rw [hwb]; simpa using Blk.new (w.alloc (.cells #[.int .i64 k, v1, v2, .int .i64 a, .int .i64 b, .int .i64 s, .int .i64 p, v3, v4, .int .i64 n] 36)) 36 #[.int .i64 k, u1, u2, .int .i64 a, .int .i64 b, .int .i64 s, .int .i64 p, u3, u4, .int .i64 n]
  have H := Lib.hid (fun W (hW : Ext wb W) => h.ext (e0.trans hW))
  have H' := Lib.hid (fun W (hW : Ext wb W) => h'.ext (e0.trans hW))
  have hE := Ext.refl wb
  have Hwb := Lib.hid hwb
  clear hwb h h'
  go_enter Try.func18, Try.ntmps18
  go_wp2_with fail
  rw [← Hwb.out]
  refine (eqGroup_any _ _ _ _ _ (H.out _ hE).g (H'.out _ hE).g).mono ?_
  rintro e w1 ⟨rfl, hE'⟩
  replace hE := hE.trans hE'
  clear hE'
  have m2 := (B0.ext hE).cell (i := 2) (v := v2) rfl
  have n2 := (B1.ext hE).cell (i := 2) (v := u2) rfl
  go_wp2_with fail
  refine (eqGroup_any _ _ _ _ _ (H.out _ hE).o (H'.out _ hE).o).mono ?_
  rintro e w2 ⟨rfl, hE'⟩
  replace hE := hE.trans hE'
  clear hE' m2 n2
  have m3 := (B0.ext hE).cell (i := 3) (v := .int .i64 a) rfl
  have n3 := (B1.ext hE).cell (i := 3) (v := .int .i64 a) rfl
  have m4 := (B0.ext hE).cell (i := 4) (v := .int .i64 b) rfl
  have n4 := (B1.ext hE).cell (i := 4) (v := .int .i64 b) rfl
  have m5 := (B0.ext hE).cell (i := 5) (v := .int .i64 s) rfl
  have n5 := (B1.ext hE).cell (i := 5) (v := .int .i64 s) rfl
  have m6 := (B0.ext hE).cell (i := 6) (v := .int .i64 p) rfl
  have n6 := (B1.ext hE).cell (i := 6) (v := .int .i64 p) rfl
  have m7 := (B0.ext hE).cell (i := 7) (v := v3) rfl
  have n7 := (B1.ext hE).cell (i := 7) (v := u3) rfl
  go_wp2_with fail
  refine (eqIntS_any _ _ _ _ _ (H.out _ hE).t (H'.out _ hE).t).mono ?_
  rintro e w3 ⟨rfl, hE'⟩
  replace hE := hE.trans hE'
  clear hE' m3 n3 m4 n4 m5 n5 m6 n6 m7 n7
  have m8 := (B0.ext hE).cell (i := 8) (v := v4) rfl
  have n8 := (B1.ext hE).cell (i := 8) (v := u4) rfl
  go_wp2_with fail
  refine (eqIntS_any _ _ _ _ _ (H.out _ hE).q (H'.out _ hE).q).mono ?_
  rintro e w4 ⟨rfl, hE'⟩
  replace hE := hE.trans hE'
  clear hE' m8 n8
  have m9 := (B0.ext hE).cell (i := 9) (v := .int .i64 n) rfl
  have n9 := (B1.ext hE).cell (i := 9) (v := .int .i64 n) rfl
  go_wp2_with fail
  go_ret
  exact ⟨rfl, e0.trans hE⟩
end Go.Zz
