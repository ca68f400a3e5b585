/- The search for a first largest set: the program's closures. -/
import Derived.Test.YtopokpamhojooaaC29
import Derived.Test.YtopokpamhojooaaPi
import Derived.Test.YtopokpamhojooaaFr
import Derived.Deep.RegionHeld3
import Derived.Laws.EntriesVeiled
namespace Go.Zz
open Go.RowKit Go.Proofs
set_option maxHeartbeats 2000000
set_option maxRecDepth 4000

/-- w' is w with new blocks, and writes to the blocks of S alone -/
structure Fw (S : Nat → Prop) (w w' : World) : Prop where
  os : w'.os = w.os
  tape : w'.tape = w.tape
  output : w'.output = w.output
  size : w.heap.size ≤ w'.heap.size
  block : ∀ k, k < w.heap.size → ¬ S k → w'.heap[k]? = w.heap[k]?
theorem Fw.refl (S : Nat → Prop) (w : World) : Fw S w w := ⟨rfl, rfl, rfl, Nat.le_refl _, fun _ _ _ => rfl⟩
theorem Fw.trans {S : Nat → Prop} {w w1 w2 : World} (h : Fw S w w1) (k : Fw S w1 w2) : Fw S w w2 :=
  ⟨k.os.trans h.os, k.tape.trans h.tape, k.output.trans h.output, Nat.le_trans h.size k.size, fun i hi hs => (k.block i (Nat.lt_of_lt_of_le hi h.size) hs).trans (h.block i hi hs)⟩
theorem Ext.fw {w w' : World} (h : Ext w w') (S : Nat → Prop) : Fw S w w' := ⟨h.os, h.tape, h.output, h.size, fun k hk _ => h.block k hk⟩
theorem fw_set {S : Nat → Prop} {b : Nat} (h : S b) (w : World) (i : Nat) (v : Value) : Fw S w (w.setCell ⟨b, i, none⟩ v) :=
  ⟨rfl, rfl, rfl, by simp, fun k _ hk => Below.heap_setCell _ _ _ _ (fun e => hk (by rw [e]; exact h))⟩
theorem Fw.ext {S : Nat → Prop} {w0 w w' : World} (h : Fw S w w') (hE : Ext w0 w) (hS : ∀ k, S k → w0.heap.size ≤ k) : Ext w0 w' := by
  have hs := hE.size
  refine ⟨h.os.trans hE.os, h.tape.trans hE.tape, h.output.trans hE.output, Nat.le_trans hs h.size, fun k hk => ?_⟩
  rw [h.block k (Nat.lt_of_lt_of_le hk hs) fun e => by have := hS k e; omega]
  exact hE.block k hk
theorem Fw.blk {S : Nat → Prop} {w w' : World} (h : Fw S w w') {c : Nat} {T : TypeId} {cs : Array Value} (hB : Blk w c T cs) (hc : ¬ S c) : Blk w' c T cs := by
  unfold Blk; rw [h.block c hB.lt hc]; exact hB
/-- three boxes of ints -/
def S3 (a b c : Nat) (k : Nat) : Prop := k = a ∨ k = b ∨ k = c

end Go.Zz
