/- Kept counts that are made new. -/
import Derived.Test.YtopokpamhojooaaC27
import Derived.Test.YtopokpamhojooaaRs
import Derived.Test.YtopokpamhojooaaCm
namespace Go.Zz
open Go.RowKit Go.Proofs
set_option maxHeartbeats 1000000
set_option maxRecDepth 20000

/-- a value of type Kept whose slices are owned, apart from each other -/
def OwnK2 (w0 w : World) (c : Value) (l : List Int) (n : Int) (m : List Int) : Prop :=
  ∃ v u, c = .agg #[v, .int .i64 n, u] ∧ Own 3 w0 w v l ∧ Own 3 w0 w u m ∧ (v.ownBlock = none ∨ v.ownBlock ≠ u.ownBlock)
theorem OwnK2.isK {w0 w : World} {c : Value} {l m : List Int} {n : Int} (h : OwnK2 w0 w c l n m) : IsK w c l n m := by
  obtain ⟨v, u, rfl, h1, h2, _⟩ := h; exact ⟨v, u, rfl, h1.ints, h2.ints⟩
theorem OwnK2.none (w0 w : World) : OwnK2 w0 w (.agg #[.slice none 0 0, .int .i64 0, .slice none 0 0]) [] 0 [] :=
  ⟨_, _, rfl, Own.nil _ _ _, Own.nil _ _ _, Or.inl rfl⟩
theorem OwnK2.mono {w0 w1 w : World} {c : Value} {l m : List Int} {n : Int} (h : OwnK2 w1 w c l n m) (hE : Ext w0 w1) : OwnK2 w0 w c l n m := by
  obtain ⟨v, u, rfl, h1, h2, h3⟩ := h; exact ⟨v, u, rfl, h1.mono hE, h2.mono hE, h3⟩
theorem OwnK2.ext {w0 w w' : World} {c : Value} {l m : List Int} {n : Int} (h : OwnK2 w0 w c l n m) (hE : Ext w w') : OwnK2 w0 w' c l n m := by
  obtain ⟨v, u, rfl, h1, h2, h3⟩ := h; exact ⟨v, u, rfl, h1.ext hE, h2.ext hE, h3⟩
def nkL (l : List Int) (a : Int) : List Int := if isSetB l a then l else []
def nkN (l : List Int) (a : Int) : Int := if isSetB l a then a else 0
theorem nk_no {l : List Int} {a : Int} (h : isSetB l a = false) : nkL l a = [] ∧ nkN l a = 0 ∧ tabF l a a = [] := by unfold nkL nkN; rw [h]; exact ⟨rfl, rfl, tabF_no (by rw [h]; rfl)⟩
theorem nk_yes {l : List Int} {a : Int} (h : isSetB l a = true) : nkL l a = l ∧ nkN l a = a := by unfold nkL nkN; rw [h]; exact ⟨rfl, rfl⟩

theorem copyInts_any (v : Value) (l : List Int) (w : World) (h : Ints w v l) :
    Calls Try.prog 102 #[v] w fun e w' => ∃ v', e = .returned v' ∧ Own 3 w w' v' l ∧ Ext w w' := by
  have hO := own_made (TI := 3) (n := 0) (by omega) (Ext.refl w) [] rfl
  have hE := (Ext.refl w).alloc (.cells #[] 3)
  have hI := h.ext hE
  obtain ⟨ao, c, rfl, hc, hlen, -⟩ := h
  go_enter Try.func102, Try.ntmps102
  go_wp2_with (at_builtin; refine wp_appends slI rfl _ _ rfl w _ _ _ _ _ hO hI hE (by simpa using hlen) rfl rfl ?_; intro v1 w1 hO1 hE1)
  go_ret
  exact ⟨_, rfl, by simpa using hO1, hE1⟩

end Go.Zz
