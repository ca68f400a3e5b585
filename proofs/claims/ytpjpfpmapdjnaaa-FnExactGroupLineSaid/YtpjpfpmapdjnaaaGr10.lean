/- Plain facts on numbers of terms, sets of partial sums. No program is named here. -/
import Derived.Test.YtpjpfpmapdjnaaaGr9
import Derived.Test.YtpjpfpmapdjnaaaGr5
import Derived.Test.YtpjpfpmapdjnaaaGr2
import Derived.Test.YtpjpfpmapdjnaaaGr6
import Derived.Test.YtpjpfpmapdjnaaaGr8
import Derived.Deep.RegionHeld3
import Derived.Laws.OwnMore
import Derived.Laws.EntriesVeiled
namespace Go.Zz

/-- how often x stands among the first k -/
def mulTo (xs : List Int) (x : Int) : Nat → Nat
  | 0 => 0
  | k + 1 => if nth xs k = x then mulTo xs x k + 1 else mulTo xs x k
def mulI (xs : List Int) (x : Int) : Nat := mulTo xs x xs.length
theorem mulTo_le (xs : List Int) (x : Int) : ∀ k, mulTo xs x k ≤ k
  | 0 => Nat.le_refl _
  | k + 1 => by
    have := mulTo_le xs x k
    unfold mulTo; split <;> omega
theorem mulTo_yes {xs : List Int} {x : Int} {k : Nat} (h : nth xs k = x) : mulTo xs x (k + 1) = mulTo xs x k + 1 := by
  conv => lhs; unfold mulTo
  rw [if_pos h]
theorem mulTo_no {xs : List Int} {x : Int} {k : Nat} (h : nth xs k ≠ x) : mulTo xs x (k + 1) = mulTo xs x k := by
  conv => lhs; unfold mulTo
  rw [if_neg h]
theorem mulTo_take (xs : List Int) (x : Int) : ∀ k, k ≤ xs.length → mulTo xs x k = (xs.take k).count x
  | 0, _ => by simp [mulTo]
  | k + 1, hk => by
    have ih := mulTo_take xs x k (by omega)
    have e : xs.take (k + 1) = xs.take k ++ [nth xs k] := by
      rw [List.take_add_one]; simp [nth, List.getD, show k < xs.length by omega]
    rw [e, List.count_append, List.count_singleton]
    by_cases h : nth xs k = x
    · rw [mulTo_yes h, ih, h]; simp
    · rw [mulTo_no h, ih]; simp [h]
theorem mulI_count (xs : List Int) (x : Int) : mulI xs x = xs.count x := by
  unfold mulI; rw [mulTo_take xs x _ (Nat.le_refl _), List.take_length]

/-- the sums of parts that are not empty -/
def sbs (l : List Int) (X : List Nat) : Nat := X.foldl (fun o x => (o ||| shiftF l o x) ||| 2 ^ x) 0
theorem sbs_snoc (l : List Int) (X : List Nat) (x : Nat) : sbs l (X ++ [x]) = (sbs l X ||| shiftF l (sbs l X) x) ||| 2 ^ x := by unfold sbs; rw [List.foldl_append]; rfl
theorem sbs_bd {l : List Int} (h : isGrp l = true) : ∀ (X : List Nat), (∀ x ∈ X, x < 24) → sbs l X < 2 ^ 24 := by
  intro X hX
  have : ∀ (X : List Nat) (o : Nat), o < 2 ^ 24 → (∀ x ∈ X, x < 24) → X.foldl (fun o x => (o ||| shiftF l o x) ||| 2 ^ x) o < 2 ^ 24 := by
    intro X
    induction X with
    | nil => intro o ho _; exact ho
    | cons x X ih =>
      intro o ho hX
      rw [List.foldl_cons]
      refine ih _ (Nat.or_lt_two_pow (Nat.or_lt_two_pow ho (shiftF_bd h o x)) (Nat.pow_lt_pow_right (by omega) (hX x (by simp)))) fun y hy => hX y (by simp [hy])
  exact this X 0 (by decide) hX
def zsB (l xs : List Int) : Bool := seqB l xs && decide (tot l (xs.map Int.toNat) = 0)
theorem zsB_no {l xs : List Int} (h : seqB l xs = false) : zsB l xs = false := by unfold zsB; rw [h]; rfl
theorem map_cast (X : List Nat) : (castL X).map Int.toNat = X := by
  unfold castL; rw [List.map_map]
  have : (Int.toNat ∘ fun n : Nat => (n : Int)) = id := by funext n; rfl
  rw [this, List.map_id]
theorem zsB_yes {l : List Int} {X : List Nat} (h : seqB l (castL X) = true) : zsB l (castL X) = (((tot l X : Nat) : Int) == 0) := by
  unfold zsB; rw [h, map_cast, Bool.true_and, Bool.eq_iff_iff, decide_eq_true_iff, beq_iff_eq]; omega
def zfB (l xs : List Int) : Bool := seqB l xs && !(sbs l (xs.map Int.toNat)).testBit 0
theorem zfB_no {l xs : List Int} (h : seqB l xs = false) : zfB l xs = false := by unfold zfB; rw [h]; rfl
theorem zfB_yes {l : List Int} {X : List Nat} (h : seqB l (castL X) = true) : zfB l (castL X) = !(sbs l X).testBit 0 := by
  unfold zfB; rw [h, map_cast, Bool.true_and]
theorem bit0 (n : Nat) : (((n % 2 : Nat) : Int) == 0) = !n.testBit 0 := by
  rw [Nat.testBit_zero]
  rcases Nat.mod_two_eq_zero_or_one n with h | h <;> rw [h] <;> rfl

/-! ### taking the terms of a part out -/
/-- l without the last x -/
def dropLast1 (x : Int) (l : List Int) : List Int := (l.reverse.erase x).reverse
/-- all of P is in T, each as often -/
def subM (T : List Int) : List Int → Bool
  | [] => true
  | x :: P => if x ∈ T then subM (dropLast1 x T) P else false
theorem count_drop1 (x y : Int) (l : List Int) (_ : x ∈ l) : (dropLast1 x l).count y = l.count y - if x = y then 1 else 0 := by
  unfold dropLast1
  rw [List.count_reverse, List.count_erase, List.count_reverse]
  congr 1
  by_cases e : x = y <;> simp [e]
theorem subM_iff : ∀ (P T : List Int), subM T P = true ↔ ∀ x, P.count x ≤ T.count x
  | [], T => by simp [subM]
  | x :: P, T => by
    unfold subM
    by_cases h : x ∈ T
    · rw [if_pos h, subM_iff P]
      have hx : 0 < T.count x := List.count_pos_iff.2 h
      constructor
      · intro H y
        have := H y
        rw [count_drop1 x y T h] at this
        rw [List.count_cons]
        by_cases e : x = y
        · subst e; simp at this ⊢; omega
        · have e' : (x == y) = false := by simpa using e
          rw [if_neg e] at this; simp [e']; omega
      · intro H y
        have := H y
        rw [List.count_cons] at this
        rw [count_drop1 x y T h]
        by_cases e : x = y
        · subst e; simp at this ⊢; omega
        · have e' : (x == y) = false := by simpa using e
          rw [if_neg e]; simp [e'] at this; omega
    · rw [if_neg h]
      constructor
      · intro H; cases H
      · intro H
        have := H x
        rw [List.count_cons] at this
        simp [List.count_eq_zero.2 h] at this
/-- the last place of x among the first k, -1 where there is none -/
def lastTo (xs : List Int) (x : Int) : Nat → Int
  | 0 => -1
  | k + 1 => if nth xs k = x then (k : Int) else lastTo xs x k
theorem lastTo_yes {xs : List Int} {x : Int} {k : Nat} (h : nth xs k = x) : lastTo xs x (k + 1) = (k : Int) := by
  conv => lhs; unfold lastTo
  rw [if_pos h]
theorem lastTo_no {xs : List Int} {x : Int} {k : Nat} (h : nth xs k ≠ x) : lastTo xs x (k + 1) = lastTo xs x k := by
  conv => lhs; unfold lastTo
  rw [if_neg h]
theorem lastTo_lt (xs : List Int) (x : Int) : ∀ k, -1 ≤ lastTo xs x k ∧ lastTo xs x k < (k : Int)
  | 0 => by simp [lastTo]
  | k + 1 => by
    have := lastTo_lt xs x k
    unfold lastTo; split <;> omega
theorem take_snocI (xs : List Int) (k : Nat) (hk : k < xs.length) : xs.take (k + 1) = xs.take k ++ [nth xs k] := by
  rw [List.take_add_one]; simp [nth, List.getD, hk]
theorem lastTo_spec (xs : List Int) (x : Int) : ∀ k, k ≤ xs.length → (lastTo xs x k = -1 ∧ x ∉ xs.take k) ∨
    ∃ a : Nat, lastTo xs x k = (a : Int) ∧ a < k ∧ dropLast1 x (xs.take k) = xs.take a ++ (xs.take k).drop (a + 1) ∧ x ∈ xs.take k
  | 0, _ => Or.inl ⟨rfl, by simp⟩
  | k + 1, hk => by
    by_cases h : nth xs k = x
    · refine Or.inr ⟨k, lastTo_yes h, by omega, ?_, ?_⟩
      · rw [take_snocI xs k (by omega), h]
        unfold dropLast1
        rw [List.reverse_append]
        simp [List.drop_append, List.length_take]
        omega
      · rw [take_snocI xs k (by omega), h]; simp
    · rw [lastTo_no h]
      rcases lastTo_spec xs x k (by omega) with ⟨e, hn⟩ | ⟨a, e, ha, hd, hm⟩
      · refine Or.inl ⟨e, ?_⟩
        rw [take_snocI xs k (by omega), List.mem_append, List.mem_singleton]
        rintro (h1 | h1)
        · exact hn h1
        · exact h h1.symm
      · refine Or.inr ⟨a, e, by omega, ?_, ?_⟩
        · rw [take_snocI xs k (by omega)]
          have hlen : (xs.take k).length = k := by rw [List.length_take]; omega
          rw [List.drop_append_of_le_length (by omega), ← List.append_assoc, ← hd]
          unfold dropLast1
          rw [List.reverse_append, List.reverse_singleton, List.singleton_append, List.erase_cons_tail (by simpa using fun e => h e), List.reverse_cons]
        · rw [take_snocI xs k (by omega)]; simp [hm]
theorem last_no {xs : List Int} {x : Int} (h : lastTo xs x xs.length < 0) : x ∉ xs := by
  rcases lastTo_spec xs x _ (Nat.le_refl _) with ⟨-, hn⟩ | ⟨a, e, -, -, -⟩
  · simpa using hn
  · omega
theorem last_yes {xs : List Int} {x : Int} (h : ¬ lastTo xs x xs.length < 0) : ∃ a : Nat, lastTo xs x xs.length = (a : Int) ∧ a < xs.length ∧ dropLast1 x xs = xs.take a ++ xs.drop (a + 1) ∧ x ∈ xs := by
  rcases lastTo_spec xs x _ (Nat.le_refl _) with ⟨e, -⟩ | ⟨a, e, ha, hd, hm⟩
  · omega
  · rw [List.take_length] at hd hm; exact ⟨a, e, ha, hd, hm⟩
theorem subM_no {T P : List Int} {x : Int} (h : x ∉ T) : subM T (x :: P) = false := by unfold subM; rw [if_neg h]
theorem subM_yes {T P : List Int} {x : Int} (h : x ∈ T) : subM T (x :: P) = subM (dropLast1 x T) P := by
  conv => lhs; unfold subM
  rw [if_pos h]
/-- the program's test -/
def mulOK (T P : List Int) : Bool := (List.range P.length).all fun k => decide (mulI P (nth P k) ≤ mulI T (nth P k))
theorem mulOK_eq (T P : List Int) : mulOK T P = subM T P := by
  rw [Bool.eq_iff_iff, subM_iff]
  unfold mulOK
  rw [List.all_eq_true]
  constructor
  · intro H x
    by_cases hx : x ∈ P
    · obtain ⟨k, hk, rfl⟩ := List.getElem_of_mem hx
      have := H k (List.mem_range.2 hk)
      rw [decide_eq_true_iff, mulI_count, mulI_count, show nth P k = P[k] by simp [nth, List.getD, hk]] at this
      exact this
    · rw [List.count_eq_zero.2 hx]; exact Nat.zero_le _
  · intro H k hk
    rw [decide_eq_true_iff, mulI_count, mulI_count]; exact H _
theorem mulOK_no {T P : List Int} {k : Nat} (hk : k < P.length) (h : mulI T (nth P k) < mulI P (nth P k)) : mulOK T P = false := by
  rw [← Bool.not_eq_true]; intro H
  have := List.all_eq_true.1 H k (List.mem_range.2 hk)
  rw [decide_eq_true_iff] at this; omega
theorem mulOK_yes {T P : List Int} (h : ∀ k, k < P.length → mulI P (nth P k) ≤ mulI T (nth P k)) : mulOK T P = true := by
  unfold mulOK; rw [List.all_eq_true]; intro k hk; rw [decide_eq_true_iff]; exact h k (List.mem_range.1 hk)
end Go.Zz

/- Two results of which the second alone is told. -/
namespace Go.Zz
open Go.RowKit
/-- e gives two values, the second of which is b -/
def TB (b : Bool) (e : Ending) : Prop := ∃ v, e = .returned (.tuple #[v, .bool b])
theorem TB.mk (v : Value) (b : Bool) : TB b (.returned (.tuple #[v, .bool b])) := ⟨v, rfl⟩
end Go.Zz

/- Taking the terms of a part out: the reference. -/
namespace Go.Zz
open Go.RowKit Go.Proofs
set_option maxHeartbeats 2000000
set_option maxRecDepth 8000

/-- l[k:] -/
def tailV (ao : Option Addr) (n c k : Nat) : Value := .slice (if c = k then ao else ao.map (·.add k)) (n - k) (c - k)
theorem run_cutFrom {P : Program} {t : TypeId} (ht : P.underlying t = some (.slice (P.elem t))) (hs : ∀ w, (sizeOf (P.elem t)).run P w = .ok 1 w) (ao : Option Addr) (n c : Nat) (k : Int) (k0 : 0 ≤ k) (hk : k ≤ n) (W : World) :
    (Instr.slice t (.slice ao n c) (some (.int .i64 k)) none none).run P W = .ok (tailV ao n c k.toNat) W := by
  rw [run_slice_l (ht := ht) (h0 := k0) (h1 := hk), hs]
  simp [Result.andThen, sliced, tailV]
theorem run_cutFromAt {P : Program} {t : TypeId} (ht : P.underlying t = some (.slice (P.elem t))) (hs : ∀ w, (sizeOf (P.elem t)).run P w = .ok 1 w) (ao : Option Addr) (n c : Nat) (k : Int) (k0 : 0 ≤ k) (hk : k ≤ n) (W : World) :
    (Instr.sliceAt t (.slice ao n c) (some (.int .i64 k)) none none).run P W = .ok (tailV ao n c k.toNat) W := by
  rw [run_sliceAt_slice (h := ht), run_cutFrom ht hs ao n c k k0 hk]
theorem Ints.drop {w : World} {ao : Option Addr} {n c : Nat} {l : List Int} (h : Ints w (.slice ao n c) l) {k : Nat} (hk : k ≤ l.length) : Ints w (tailV ao n c k) (l.drop k) := by
  obtain ⟨ao', c', hv, h1, h2, h3⟩ := h
  simp only [Value.slice.injEq] at hv
  obtain ⟨rfl, rfl, rfl⟩ := hv
  have hl : (l.drop k).length = l.length - k := List.length_drop
  refine ⟨_, c - k, by rw [hl]; rfl, by rw [hl]; omega, by rw [hl]; omega, fun i hi => ?_⟩
  rw [hl] at hi
  obtain ⟨a, rfl, hc⟩ := h3 (k + i) (by omega)
  refine ⟨a.add k, by rw [if_neg (by omega)]; rfl, ?_⟩
  rw [show (a.add k).add i = a.add (k + i) by unfold Addr.add; by_cases h1 : k = 0 <;> by_cases h2 : i = 0 <;> simp [h1, h2, Nat.add_assoc], hc]
  simp [nth, List.getD, List.getElem?_drop]
/-- the list without one number, in memory of the call's own -/
def MiP (w0 : World) (T : List Int) (s : Value) (wx : World) : Prop := ∃ ao c, s = .slice ao T.length c ∧ Own 3 w0 wx (.slice ao T.length c) T ∧ Ext w0 wx
theorem MiP.of {w0 : World} {A B : List Int} {s : Value} {wx : World} (h : OwnE 3 w0 w0 wx s (A ++ B)) (hE : Ext w0 wx) : MiP w0 (A ++ B) s wx := by
  have h2 := h.own (Ext.refl w0)
  obtain ⟨ao, c, rfl, -⟩ := h2.shape
  exact ⟨ao, c, rfl, h2, hE⟩
end Go.Zz

/- Tilings: differences; the search of the reference. -/
namespace Go.Zz
open Go.RowKit Go.Proofs
set_option maxHeartbeats 1000000
set_option maxRecDepth 4000

end Go.Zz

/- What stays where a call writes into one box and grows the slice that lies in it. -/
namespace Go.Zz
open Go.RowKit Go.Proofs
set_option maxHeartbeats 1000000

theorem own_nb {TI : TypeId} {w0 w : World} {v : Value} {l : List Int} {b : Nat} (h : Own TI w0 w v l) (hb : b < w0.heap.size) : v.ownBlock ≠ some b := fun e => by have := (h.blk b e).1; omega
/-- w' is w with new blocks, and writes to block b and to the row o alone -/
structure Fr (b : Nat) (o : Option Nat) (w w' : World) : Prop where
  os : w'.os = w.os
  tape : w'.tape = w.tape
  output : w'.output = w.output
  size : w.heap.size ≤ w'.heap.size
  block : ∀ k, k < w.heap.size → k ≠ b → some k ≠ o → w'.heap[k]? = w.heap[k]?
/-- the row o' is the row o, or newer than w -/
def Nw (o : Option Nat) (w : World) (o' : Option Nat) : Prop := o' = o ∨ ∀ k, o' = some k → w.heap.size ≤ k
theorem Fr.refl (b : Nat) (o : Option Nat) (w : World) : Fr b o w w := ⟨rfl, rfl, rfl, Nat.le_refl _, fun _ _ _ _ => rfl⟩
theorem Nw.refl (o : Option Nat) (w : World) : Nw o w o := Or.inl rfl
theorem Fr.trans {b : Nat} {o o1 : Option Nat} {w w1 w2 : World} (h : Fr b o w w1) (hn : Nw o w o1) (k : Fr b o1 w1 w2) : Fr b o w w2 :=
  ⟨k.os.trans h.os, k.tape.trans h.tape, k.output.trans h.output, Nat.le_trans h.size k.size, fun i hi hb ho => by
    rw [k.block i (Nat.lt_of_lt_of_le hi h.size) hb fun e => ?_, h.block i hi hb ho]
    rcases hn with hn | hn
    · rw [hn] at e; exact ho e
    · have := hn i e.symm; omega⟩
theorem Nw.trans {o o1 o2 : Option Nat} {w w1 : World} (h : Nw o w o1) (hs : w.heap.size ≤ w1.heap.size) (k : Nw o1 w1 o2) : Nw o w o2 := by
  rcases k with k | k
  · rw [k]; exact h
  · exact Or.inr fun i hi => Nat.le_trans hs (k i hi)
theorem Ext.fr {w w' : World} (h : Ext w w') (b : Nat) (o : Option Nat) : Fr b o w w' := ⟨h.os, h.tape, h.output, h.size, fun k hk _ _ => h.block k hk⟩
theorem fr_grown {b : Nat} {o : Option Nat} {w w' : World} (h : w.grownBy w' o) : Fr b o w w' := ⟨h.os, h.tape, h.output, h.size, fun k hk _ ho => h.block k hk ho⟩
theorem fr_set (b : Nat) (o : Option Nat) (w : World) (i : Nat) (v : Value) : Fr b o w (w.setCell ⟨b, i, none⟩ v) :=
  ⟨rfl, rfl, rfl, by simp, fun k _ hb _ => Below.heap_setCell _ _ _ _ (fun e => hb e)⟩
theorem Fr.ext {b : Nat} {o : Option Nat} {w0 w w' : World} (h : Fr b o w w') (hE : Ext w0 w) (hb : w0.heap.size ≤ b) (ho : ∀ k, o = some k → w0.heap.size ≤ k) : Ext w0 w' := by
  have hs := hE.size
  refine ⟨h.os.trans hE.os, h.tape.trans hE.tape, h.output.trans hE.output, Nat.le_trans hs h.size, fun k hk => ?_⟩
  rw [h.block k (Nat.lt_of_lt_of_le hk hs) (by omega) fun e => by have := ho k e.symm; omega]
  exact hE.block k hk
theorem Fr.blk {b : Nat} {o : Option Nat} {w w' : World} (h : Fr b o w w') {c : Nat} {T : TypeId} {cs : Array Value} (hB : Blk w c T cs) (hc : c ≠ b) (ho : o ≠ some c) : Blk w' c T cs := by
  unfold Blk; rw [h.block c hB.lt hc fun e => ho e.symm]; exact hB
theorem Fr.own {b : Nat} {o : Option Nat} {w w' : World} (h : Fr b o w w') {TI : TypeId} {w0 : World} {v : Value} {l : List Int} (hO : Own TI w0 w v l) (h1 : v.ownBlock ≠ some b) (h2 : v.ownBlock = none ∨ v.ownBlock ≠ o) : Own TI w0 w' v l := by
  obtain ⟨⟨hl, hr⟩, hn⟩ := hO
  refine ⟨⟨hl, ?_⟩, hn⟩
  rcases hr with hr | ⟨g, cap, cur, rfl, hg, hh, rest⟩
  · exact Or.inl hr
  · refine Or.inr ⟨g, cap, cur, rfl, hg, ?_, rest⟩
    simp [Value.ownBlock] at h1 h2
    rw [h.block g (Array.getElem?_eq_some_iff.1 hh).1 h1 h2]; exact hh
theorem run_append1F {P : Program} {T TI : TypeId} (hT : IntSl P T TI) (ty : TypeId) (w0 w : World) (v : Value) (l : List Int) (y : Int) (ad : Addr) (hO : Own TI w0 w v l) (hE : Ext w0 w) (hy : ∀ j u, [Value.int .i64 y][j]? = some u → w.cell? (ad.add j) = some u) (hn : l.length < 17592186044416) :
    ∃ v' w', (Builtin.append_ #[T, T] ty #[v, .slice (some ad) 1 1]).run P w = .ok v' w' ∧ Own TI w0 w' v' (l ++ [y]) ∧ w.grownBy w' v.ownBlock ∧ Nw v.ownBlock w v'.ownBlock := by
  obtain ⟨i, hi, hz, hs1, hby⟩ := hT.info
  have h1 := hO.1
  rcases h1.2 with ⟨rfl, hl⟩ | ⟨g, cap, cur, rfl, hg, hh, hnc, hcm, hcs, htk⟩
  · have hl' : l = [] := List.eq_nil_of_length_eq_zero hl
    subst hl'
    obtain ⟨v', w', hrun, r1, r2, -⟩ := run_append_own (P := P) w w.heap.size T ty TI i (.int .i64 0) 1 8 hT.und hi hz hs1 hby rfl (by omega) (.slice none 0 0) 0 [] (World.ownsRow_nil _ _ _ _) ad 1 1 [.int .i64 y] rfl hy (by simp [Value.oneCell']) (by unfold maxLen; omega) (by omega) (Nat.le_refl _)
    have hO' : Own TI w w' v' [y] := ⟨by simpa using r1, by simp⟩
    exact ⟨v', w', hrun, by simpa using hO'.mono hE, r2, Or.inr fun k hk => (hO'.blk k hk).1⟩
  · by_cases hroom : l.length + 1 ≤ cap
    · obtain ⟨w', hrun, r1, r2⟩ := run_append_fits (P := P) w w0.heap.size T ty TI i 1 hT.und hi hs1 g l.length cap _ h1 ad 1 1 [.int .i64 y] rfl hy (by simp [Value.oneCell']) hroom
      exact ⟨_, w', hrun, ⟨by simpa using r1, by simp; omega⟩, r2, Or.inl rfl⟩
    · obtain ⟨v', w', hrun, r1, r2⟩ := run_append_arg_grows (P := P) (w := w) T ty TI i (.int .i64 0) 1 8 hT.und hi hz hs1 hby rfl (by omega) ⟨g, 0, none⟩ l.length cap (l.map (Value.int .i64)) (by simp) (by
        intro j u hu
        have hj : j < l.length := by have := (List.getElem?_eq_some_iff.1 hu).1; simpa using this
        rw [Addr.add_lit, Nat.zero_add, World.ownsRow.cellAt h1 j (by omega)]
        simpa using hu) ad 1 1 [.int .i64 y] rfl hy (by omega) (by unfold maxLen; omega) (by omega)
      have hO' : Own TI w w' v' (l ++ [y]) := ⟨by simpa using r1, by simp; omega⟩
      exact ⟨v', w', hrun, hO'.mono hE, ⟨r2.os, r2.tape, r2.output, r2.size, fun k hk _ => r2.block k hk (by simp)⟩, Or.inr fun k hk => (hO'.blk k hk).1⟩
section
variable {P : Program} {ops : Array Oper} {rest : List Oper} {o : Oper} {a : Act} {Q : Exit → Act → World → Prop} {T TI : TypeId}
/-- append(s, y), with the row that it writes -/
theorem wp_append1F (hT : IntSl P T TI) (hg : o.guard = none) (s x : Operand) (hop : o.op = Op.call { callee := Callee.builtin Builtin.append, args := #[s, x], argTypes := #[T, T] })
    (w0 W : World) (v : Value) (l : List Int) (y : Int) (hO : Own TI w0 W v l) (hE : Ext w0 W) (hn : l.length < 17592186044416) (hs : a.eval s = v) (hx : a.eval x = .slice (some ⟨W.heap.size, 0, none⟩) 1 1)
    (hK : ∀ v' w', Own TI w0 w' v' (l ++ [y]) → W.grownBy w' v.ownBlock → Nw v.ownBlock W v'.ownBlock → wpList P ops Q rest (a.put o.dst v') w') :
    wpList P ops Q (o :: rest) a (W.alloc (.cells #[.int .i64 y] TI)) := by
  obtain ⟨v', w', hrun, h1, h2, h3⟩ := run_append1F hT o.type w0 (W.alloc (.cells #[.int .i64 y] TI)) v l y ⟨W.heap.size, 0, none⟩ (hO.alloc _) (hE.alloc _) (cell_one_new _ _ _) hn
  refine wpList_plain hg fun K hK' => ?_
  unfold Oper.wp
  simp [execOp, hop, resolve, invoke, builtin, hs, hx, hrun, Result.andThen]
  have e : Ext W (W.alloc (.cells #[.int .i64 y] TI)) := (Ext.refl W).alloc _
  refine hK' _ _ (hK v' w' h1 ⟨h2.os.trans e.os, h2.tape.trans e.tape, h2.output.trans e.output, Nat.le_trans e.size h2.size, fun k hk hne => ?_⟩ ?_)
  · rw [h2.block k (Nat.lt_of_lt_of_le hk e.size) hne]; exact e.block k hk
  · rcases h3 with h3 | h3
    · exact Or.inl h3
    · exact Or.inr fun k hk => Nat.le_trans e.size (h3 k hk)
end
end Go.Zz

/- Tilings: the search of the program, a closure. -/
namespace Go.Zz
open Go.RowKit Go.Proofs
set_option maxHeartbeats 2000000
set_option maxRecDepth 4000

end Go.Zz

/- FindTile and ClaimOfTile of both. -/
namespace Go.Zz
open Go.RowKit Go.Proofs
set_option maxHeartbeats 2000000
set_option maxRecDepth 4000

end Go.Zz

/- FindTile of the reference; ClaimOfTile of both. -/
namespace Go.Zz
open Go.RowKit Go.Proofs
set_option maxHeartbeats 2000000
set_option maxRecDepth 4000

end Go.Zz

/- TilesOf of the reference: its tiles are put in ascending order. -/
namespace Go.Zz
open Go.RowKit Go.Proofs
set_option maxHeartbeats 2000000
set_option maxRecDepth 8000

theorem castL_put (L : List Nat) (n k : Nat) : (castL L).take k ++ [(n : Int)] ++ (castL L).drop k = castL (putAt L n k) := by
  unfold putAt castL; simp [List.map_take, List.map_drop]
theorem l5Put_two (u : Value) (L : List Nat) (n : Nat) (w : World) (h : Ints w u (castL L)) (hL : L.length ≤ 100000) :
    Calls Try.prog 34 #[u, .int .i64 n] w fun e w' => ∃ v', e = .returned v' ∧ (v' = u ∧ putN L n = L ∨ Own 3 w w' v' (castL (putN L n))) ∧ Ext w w' := by
  have HI := Lib.hid (fun W (hW : Ext w W) => h.ext hW)
  obtain ⟨ao, c, adrL, rfl, hadrL, hcellL⟩ := h.nats
  have hixL := ints_index (c := c) elI szI hadrL
  have hE := Ext.refl w
  have hcap : L.length ≤ c := by
    obtain ⟨_, _, hv, hc, _⟩ := h
    rw [castL_len] at hv hc
    simp only [Value.slice.injEq] at hv
    omega
  have HI : Hid (∀ W, Ext w W → Ints W (.slice ao L.length c) (castL L)) := HI
  clear h hadrL
  go_enter Try.func34, Try.ntmps34
  go_wp2_with fail
  go_loop [5] (fun sk => ∃ k : Nat, k ≤ L.length ∧ sk = .int .i64 k ∧ Hid (pkN L n L.length = pkN L n k)) (fun sk => (intOf sk).toNat)
  case atStart => exact ⟨L.length, Nat.le_refl _, rfl, Lib.hid rfl⟩
  case round =>
    obtain ⟨k, hk, rfl, HP⟩ := hrel
    have hc4 : k = 0 ∨ (∃ j, k = j + 1 ∧ n < nthN L j) ∨ (∃ j, k = j + 1 ∧ nthN L j = n) ∨ (∃ j, k = j + 1 ∧ nthN L j < n) := by
      by_cases hk0 : k = 0
      · exact Or.inl hk0
      · obtain ⟨j, rfl⟩ : ∃ j, k = j + 1 := ⟨k - 1, by omega⟩
        rcases Nat.lt_trichotomy n (nthN L j) with h | h | h
        · exact Or.inr (Or.inl ⟨j, rfl, h⟩)
        · exact Or.inr (Or.inr (Or.inl ⟨j, rfl, h.symm⟩))
        · exact Or.inr (Or.inr (Or.inr ⟨j, rfl, h⟩))
    have Hcell := Lib.hid hcellL
    clear hcellL
    rcases hc4 with hk0 | ⟨j, rfl, hlt⟩ | ⟨j, rfl, he⟩ | ⟨j, hkj, hlt⟩
    · have Hp : Hid (putN L n = putAt L n k) := Lib.hid (by rw [hk0] at HP ⊢; exact putN_zero HP.out)
      have hkz : ¬ (0 : Int) < (k : Int) := by omega
      clear hk0
      have hsl := fun W => run_cut (P := Try.prog) elI szI ao L.length c (k : Int) (by omega) (by omega) W
      have hsa := fun W => run_cutAt (P := Try.prog) elI szI ao L.length c (k : Int) (by omega) (by omega) W
      have hfl := fun W => run_cutFrom (P := Try.prog) elI szI ao L.length c (k : Int) (by omega) (by omega) W
      have hfa := fun W => run_cutFromAt (P := Try.prog) elI szI ao L.length c (k : Int) (by omega) (by omega) W
      rw [show ((k : Int)).toNat = k by omega] at hsl hsa hfl hfa
      have hcl : (castL L).length = L.length := castL_len L
      have Hpq : Hid (castL (putN L n) = (castL L).take k ++ [(n : Int)] ++ (castL L).drop k) := Lib.hid (by rw [Hp.out, castL_put])
      have HA := Lib.hid (fun W (hW : Ext w W) => (HI.out W hW).take (k := k) (by omega))
      have HB := Lib.hid (fun W (hW : Ext w W) => (HI.out W hW).drop (k := k) (by omega))
      have hln1 : ((castL L).take k).length + [(n : Int)].length ≤ 17592186044416 := by rw [List.length_take, List.length_singleton]; omega
      have hln2 : ((castL L).take k ++ [(n : Int)]).length + ((castL L).drop k).length ≤ 17592186044416 := by rw [List.length_append, List.length_take, List.length_singleton, List.length_drop]; omega
      obtain ⟨A, hA⟩ : ∃ A, A = (castL L).take k := ⟨_, rfl⟩
      obtain ⟨B, hB⟩ : ∃ B, B = (castL L).drop k := ⟨_, rfl⟩
      rw [← hA] at HA hln1 hln2 Hpq
      rw [← hB] at HB hln2 Hpq
      clear hA hB hcl
      go_wp2_with fail
      first | (go_region_held3 (fun W => Ext w W) (exact (by repeat (first | assumption | exact Ext.refl _ | (apply And.left; assumption) | apply Ext.drew | apply Ext.alloc))) (first | ((refine step_appendsE slI rfl _ _ rfl w w ?_ ?_ (A ++ [(n : Int)]) (B) ?_ ?_ ?_ hln2 ?_ ?_ ?_); (rotate_left 2); (focus (first | (with_reducible assumption) | ((refine OwnE.ext (w := ?_) ?_ ?_); (rotate_left 1); (focus (with_reducible assumption)); repeat (first | assumption | exact Ext.refl _ | (apply And.left; assumption) | apply Ext.drew | apply Ext.alloc)))); (rotate_left 2); rfl; rfl; (rotate_left 1); (focus (exact HB.out _ (by repeat (first | assumption | exact Ext.refl _ | (apply And.left; assumption) | apply Ext.drew | apply Ext.alloc)))); (focus (repeat (first | assumption | exact Ext.refl _ | (apply And.left; assumption) | apply Ext.drew | apply Ext.alloc))); (intro vF wF hOF hXF hTF)) | ((refine step_appendsE slI rfl _ _ rfl w w ?_ ?_ (A) ([(n : Int)]) ?_ ?_ ?_ hln1 ?_ ?_ ?_); (rotate_left 2); (focus (first | (with_reducible assumption) | ((refine OwnE.ext (w := ?_) ?_ ?_); (rotate_left 1); (focus (with_reducible assumption)); repeat (first | assumption | exact Ext.refl _ | (apply And.left; assumption) | apply Ext.drew | apply Ext.alloc)))); (rotate_left 2); rfl; rfl; (rotate_left 1); (focus (refine Blk.ints1 (T := 3) ?_; (repeat (first | (with_reducible assumption) | (with_reducible exact Blk.new _ _ _) | ((with_reducible refine Blk.new' ?_); simp [go_sem]; done) | (with_reducible apply Blk.alloc) | (with_reducible apply Blk.drew) | (with_reducible refine Blk.ext ?_ hEC))))); (focus (repeat (first | assumption | exact Ext.refl _ | (apply And.left; assumption) | apply Ext.drew | apply Ext.alloc))); (intro vD wD hOD hXD hTD)) | ((refine step_copy2 slI rfl _ _ rfl ?_ ?_ (A) ?_ ?_ ?_ ?_ w ?_ ?_ ?_); (rotate_left 2); rfl; rfl; (focus (repeat (first | (with_reducible assumption) | (with_reducible exact Blk.new _ _ _) | ((with_reducible refine Blk.new' ?_); simp [go_sem]; done) | (with_reducible apply Blk.alloc) | (with_reducible apply Blk.drew)))); (exact HA.out _ (by repeat (first | assumption | exact Ext.refl _ | (apply And.left; assumption) | apply Ext.drew | apply Ext.alloc))); (focus (first | exact Nat.le_refl _ | omega | (simp; omega))); (focus (repeat (first | assumption | exact Ext.refl _ | (apply And.left; assumption) | apply Ext.drew | apply Ext.alloc))); (intro aoC cC wC hOC hZC hEC; have hXC := Ext.trans (a := w) (by repeat (first | assumption | exact Ext.refl _ | (apply And.left; assumption) | apply Ext.drew | apply Ext.alloc)) hEC; have hOEC : OwnE 3 w w wC _ _ := Or.inr hOC)))) | (fail "the region")
      all_goals
        obtain ⟨aoN, cN, rfl, hON, hEN⟩ := MiP.of hOF hXF
        go_wp2_with fail
        go_ret
        exact ⟨_, rfl, Or.inr (by rw [Hpq.out]; exact hON), hEN⟩
    · have hlj : j < L.length := by omega
      have hck := Hcell.out j w hlj hE
      obtain ⟨Y, hY⟩ : ∃ Y, Y = nthN L j := ⟨_, rfl⟩
      rw [← hY] at hck hlt
      have hixj := hixL j
      have hw1 : IntKind.i64.wrap (((j + 1 : Nat) : Int) - 1) = (j : Int) := by rw [show (((j + 1 : Nat) : Int) - 1) = (j : Int) by omega]; exact IntWalk.i64_in _ (by omega)
      have hw2 : (((j + 1 : Nat) : Int) - 1) = (j : Int) := by omega
      have hkz : (0 : Int) < ((j + 1 : Nat) : Int) := by omega
      have Hn : Hid (pkN L n L.length = pkN L n j) := Lib.hid (by rw [HP.out, pkN_down (by rw [← hY]; exact hlt)])
      have hq : (n : Int) < (Y : Int) := by omega
      clear hY
      go_wp2_with fail
      go_round
      case rel => exact ⟨j, by omega, by go_num, Hn⟩
      case measure => (first | (simp [intOf]; done) | (simp [intOf]; omega))
    · have hlj : j < L.length := by omega
      have hck := Hcell.out j w hlj hE
      have Hs : Hid (pkN L n L.length = j + 1) := Lib.hid (by rw [HP.out, pkN_stop (by omega)])
      have Hp : Hid (putN L n = L) := Lib.hid (putN_old Hs.out he)
      have hw2 : (((j + 1 : Nat) : Int) - 1) = (j : Int) := by omega
      have hkz : (0 : Int) < ((j + 1 : Nat) : Int) := by omega
      rw [he] at hck
      have hq : ¬ (n : Int) < (n : Int) := by omega
      clear he
      go_wp2_with fail
      go_ret
      exact ⟨_, rfl, Or.inl ⟨rfl, Hp.out⟩, hE⟩
    · have hlj : j < L.length := by omega
      have hck := Hcell.out j w hlj hE
      have Hs : Hid (pkN L n L.length = j + 1) := Lib.hid (by rw [HP.out, hkj, pkN_stop (by omega)])
      have Hp : Hid (putN L n = putAt L n k) := Lib.hid (by rw [hkj]; exact putN_new Hs.out (by omega))
      obtain ⟨Y, hY⟩ : ∃ Y, Y = nthN L j := ⟨_, rfl⟩
      rw [← hY] at hck hlt
      have hw2 : ((k : Int) - 1) = (j : Int) := by omega
      have hkz : (0 : Int) < (k : Int) := by omega
      have hq : ¬ (n : Int) < (Y : Int) := by omega
      have hq2 : ((Y : Int) == (n : Int)) = false := by rw [beq_eq_false_iff_ne]; omega
      have hixj := hixL j
      have Hs' := Hs
      clear hY hkj Hs Hs'
      have hsl := fun W => run_cut (P := Try.prog) elI szI ao L.length c (k : Int) (by omega) (by omega) W
      have hsa := fun W => run_cutAt (P := Try.prog) elI szI ao L.length c (k : Int) (by omega) (by omega) W
      have hfl := fun W => run_cutFrom (P := Try.prog) elI szI ao L.length c (k : Int) (by omega) (by omega) W
      have hfa := fun W => run_cutFromAt (P := Try.prog) elI szI ao L.length c (k : Int) (by omega) (by omega) W
      rw [show ((k : Int)).toNat = k by omega] at hsl hsa hfl hfa
      have hcl : (castL L).length = L.length := castL_len L
      have Hpq : Hid (castL (putN L n) = (castL L).take k ++ [(n : Int)] ++ (castL L).drop k) := Lib.hid (by rw [Hp.out, castL_put])
      have HA := Lib.hid (fun W (hW : Ext w W) => (HI.out W hW).take (k := k) (by omega))
      have HB := Lib.hid (fun W (hW : Ext w W) => (HI.out W hW).drop (k := k) (by omega))
      have hln1 : ((castL L).take k).length + [(n : Int)].length ≤ 17592186044416 := by rw [List.length_take, List.length_singleton]; omega
      have hln2 : ((castL L).take k ++ [(n : Int)]).length + ((castL L).drop k).length ≤ 17592186044416 := by rw [List.length_append, List.length_take, List.length_singleton, List.length_drop]; omega
      obtain ⟨A, hA⟩ : ∃ A, A = (castL L).take k := ⟨_, rfl⟩
      obtain ⟨B, hB⟩ : ∃ B, B = (castL L).drop k := ⟨_, rfl⟩
      rw [← hA] at HA hln1 hln2 Hpq
      rw [← hB] at HB hln2 Hpq
      clear hA hB hcl
      go_wp2_with fail
      first | (go_region_held3 (fun W => Ext w W) (exact (by repeat (first | assumption | exact Ext.refl _ | (apply And.left; assumption) | apply Ext.drew | apply Ext.alloc))) (first | ((refine step_appendsE slI rfl _ _ rfl w w ?_ ?_ (A ++ [(n : Int)]) (B) ?_ ?_ ?_ hln2 ?_ ?_ ?_); (rotate_left 2); (focus (first | (with_reducible assumption) | ((refine OwnE.ext (w := ?_) ?_ ?_); (rotate_left 1); (focus (with_reducible assumption)); repeat (first | assumption | exact Ext.refl _ | (apply And.left; assumption) | apply Ext.drew | apply Ext.alloc)))); (rotate_left 2); rfl; rfl; (rotate_left 1); (focus (exact HB.out _ (by repeat (first | assumption | exact Ext.refl _ | (apply And.left; assumption) | apply Ext.drew | apply Ext.alloc)))); (focus (repeat (first | assumption | exact Ext.refl _ | (apply And.left; assumption) | apply Ext.drew | apply Ext.alloc))); (intro vF wF hOF hXF hTF)) | ((refine step_appendsE slI rfl _ _ rfl w w ?_ ?_ (A) ([(n : Int)]) ?_ ?_ ?_ hln1 ?_ ?_ ?_); (rotate_left 2); (focus (first | (with_reducible assumption) | ((refine OwnE.ext (w := ?_) ?_ ?_); (rotate_left 1); (focus (with_reducible assumption)); repeat (first | assumption | exact Ext.refl _ | (apply And.left; assumption) | apply Ext.drew | apply Ext.alloc)))); (rotate_left 2); rfl; rfl; (rotate_left 1); (focus (refine Blk.ints1 (T := 3) ?_; (repeat (first | (with_reducible assumption) | (with_reducible exact Blk.new _ _ _) | ((with_reducible refine Blk.new' ?_); simp [go_sem]; done) | (with_reducible apply Blk.alloc) | (with_reducible apply Blk.drew) | (with_reducible refine Blk.ext ?_ hEC))))); (focus (repeat (first | assumption | exact Ext.refl _ | (apply And.left; assumption) | apply Ext.drew | apply Ext.alloc))); (intro vD wD hOD hXD hTD)) | ((refine step_copy2 slI rfl _ _ rfl ?_ ?_ (A) ?_ ?_ ?_ ?_ w ?_ ?_ ?_); (rotate_left 2); rfl; rfl; (focus (repeat (first | (with_reducible assumption) | (with_reducible exact Blk.new _ _ _) | ((with_reducible refine Blk.new' ?_); simp [go_sem]; done) | (with_reducible apply Blk.alloc) | (with_reducible apply Blk.drew)))); (exact HA.out _ (by repeat (first | assumption | exact Ext.refl _ | (apply And.left; assumption) | apply Ext.drew | apply Ext.alloc))); (focus (first | exact Nat.le_refl _ | omega | (simp; omega))); (focus (repeat (first | assumption | exact Ext.refl _ | (apply And.left; assumption) | apply Ext.drew | apply Ext.alloc))); (intro aoC cC wC hOC hZC hEC; have hXC := Ext.trans (a := w) (by repeat (first | assumption | exact Ext.refl _ | (apply And.left; assumption) | apply Ext.drew | apply Ext.alloc)) hEC; have hOEC : OwnE 3 w w wC _ _ := Or.inr hOC)))) | (fail "the region")
      all_goals
        obtain ⟨aoN, cN, rfl, hON, hEN⟩ := MiP.of hOF hXF
        go_wp2_with fail
        go_ret
        exact ⟨_, rfl, Or.inr (by rw [Hpq.out]; exact hON), hEN⟩
theorem l5Put_any (u : Value) (L : List Nat) (n : Nat) (w : World) (h : Ints w u (castL L)) (hL : L.length ≤ 100000) :
    Calls Try.prog 34 #[u, .int .i64 n] w fun e w' => ∃ v', e = .returned v' ∧ Ints w' v' (castL (putN L n)) ∧ Ext w w' :=
  (l5Put_two u L n w h hL).mono fun e w' ⟨v', he, h1, hE⟩ => ⟨v', he, by
    rcases h1 with ⟨rfl, h2⟩ | h1
    · rw [h2]; exact h.ext hE
    · exact h1.ints, hE⟩
theorem l5Put_own (u : Value) (L : List Nat) (n : Nat) (w0 w : World) (h : Own 3 w0 w u (castL L)) (hs : w0.heap.size ≤ w.heap.size) (hL : L.length ≤ 100000) :
    Calls Try.prog 34 #[u, .int .i64 n] w fun e w' => ∃ v', e = .returned v' ∧ Own 3 w0 w' v' (castL (putN L n)) ∧ Ext w w' :=
  (l5Put_two u L n w h.ints hL).mono fun e w' ⟨v', he, h1, hE⟩ => ⟨v', he, by
    rcases h1 with ⟨rfl, h2⟩ | h1
    · rw [h2]; exact h.ext hE
    · exact ⟨ownsRow_mono h1.1 hs, h1.2⟩, hE⟩
theorem Ints.shapeN {w : World} {v : Value} {L : List Nat} (h : Ints w v (castL L)) : ∃ ao c, v = .slice ao L.length c := by
  obtain ⟨ao, c, rfl, -⟩ := h
  exact ⟨ao, c, by rw [castL_len]⟩
/-- the number of tiles, at most 200 -/
def tlN (l : List Int) (a : Int) : Nat := if isOneB l a then (tileL l a.toNat 200).length else 0
theorem tlN_no {l : List Int} {a : Int} (h : isOneB l a = false) : tlN l a = 0 := by unfold tlN; rw [h]; rfl
theorem tlN_yes {l : List Int} {n : Nat} (h : isOneB l n = true) : tlN l n = (tileL l n 200).length := by unfold tlN; rw [if_pos h]; rfl
end Go.Zz
