/-
  No cell of these rows narrows 'for every input' (looked for: loops, veiled, ifaces, maps, wideKeys, modest, calm, conditions, laid).
  DERIVED. THE GIVEN ROWS OF THIS SEAT. 12 by the template 'for every input the law returns true; each argument reads behind the call as it read before'; 0 by the template 'total and deterministic' (their statements: YtopdmgfbpdcnlaaTotals.lean).
  GIVEN WITH THE SEED: the statements are not yours to turn. If you find one false, say at which input.
  Laid BY PROGRAM, IN A SANDBOX (cutbox-rows.mjs): the forced cells as the released guide's own fill.sh prints them over the translation 4cbde0ebf5040ea5… (all of the seat's roots in one cut). By AI agents, Wed Nov 11 2026. No macro, syntax, notation, axiom, sorry.
-/
import Derived.Test.YtopdmgfbpdcnlaaChecked
import GoSem.Claim
import GoSem.ClaimJoined
import GoSem.ClaimMapViews
import Derived.JoinedTies
import Derived.KernelRfl
namespace Go.Proofs.Ytopdmgfbpdcnlaa
/- THE CELL 'sum', in the pinned program and in every row, IS THE sha256 OF THE DUMP (.gsa) THAT YtopdmgfbpdcnlaaProg.lean LOADS. Nothing in Lean hashes anything: it is a label: what it is worth is what the hold of that sum in a sandbox is worth. -/
noncomputable def Try.pinned : Pinned := { name := "ytopdmgfbpdcnlaa", sum := "4cbde0ebf5040ea508b7e86b12f97025491f1b2377f7c405579ecf7d212e5a72", checked := Try.checked }
namespace Rows
def none {H : Type} : Left H := { results := [], args := [] }

/-- 'laws.FnExactLeastSumset': WHATEVER THE INPUT: true; the input reads as it did. -/
def fnExactLeastSumsetSpec : ChangeSpec := { name := "fnExactLeastSumset", fn := fun _ => fun
  | [d1, d2, d3] => { results := [.lit (.bool true)], args := [d1, d2, d3] }
  | _ => none }
def fnExactLeastSumsetRow : OpenClaim := { program := "ytopdmgfbpdcnlaa", sum := "4cbde0ebf5040ea508b7e86b12f97025491f1b2377f7c405579ecf7d212e5a72", func := "loop.example/g03402/laws.FnExactLeastSumset", spec := "fnExactLeastSumset", apart := false }
def FnExactLeastSumsetSaid : Prop := fnExactLeastSumsetRow.holds Try.pinned (OpenSpec.ofChange fnExactLeastSumsetSpec)

/-- ITS FALSE NEIGHBOUR: 'it returns false'. Refute it at one input. -/
def fnExactLeastSumsetWrong : ChangeSpec := { name := "fnExactLeastSumset", fn := fun _ => fun
  | [d1, d2, d3] => { results := [.lit (.bool false)], args := [d1, d2, d3] }
  | _ => none }
def FnExactLeastSumsetWrongFalsely : Prop := fnExactLeastSumsetRow.holds Try.pinned (OpenSpec.ofChange fnExactLeastSumsetWrong)

/-- 'laws.FnExactNewKept': WHATEVER THE INPUT: true; the input reads as it did. -/
def fnExactNewKeptSpec : ChangeSpec := { name := "fnExactNewKept", fn := fun _ => fun
  | [d1, d2] => { results := [.lit (.bool true)], args := [d1, d2] }
  | _ => none }
def fnExactNewKeptRow : OpenClaim := { program := "ytopdmgfbpdcnlaa", sum := "4cbde0ebf5040ea508b7e86b12f97025491f1b2377f7c405579ecf7d212e5a72", func := "loop.example/g03402/laws.FnExactNewKept", spec := "fnExactNewKept", apart := false }
def FnExactNewKeptSaid : Prop := fnExactNewKeptRow.holds Try.pinned (OpenSpec.ofChange fnExactNewKeptSpec)

/-- ITS FALSE NEIGHBOUR: 'it returns false'. Refute it at one input. -/
def fnExactNewKeptWrong : ChangeSpec := { name := "fnExactNewKept", fn := fun _ => fun
  | [d1, d2] => { results := [.lit (.bool false)], args := [d1, d2] }
  | _ => none }
def FnExactNewKeptWrongFalsely : Prop := fnExactNewKeptRow.holds Try.pinned (OpenSpec.ofChange fnExactNewKeptWrong)

/-- 'laws.FnExactDoubleCover': WHATEVER THE INPUT: true; the input reads as it did. -/
def fnExactDoubleCoverSpec : ChangeSpec := { name := "fnExactDoubleCover", fn := fun _ => fun
  | [d1, d2] => { results := [.lit (.bool true)], args := [d1, d2] }
  | _ => none }
def fnExactDoubleCoverRow : OpenClaim := { program := "ytopdmgfbpdcnlaa", sum := "4cbde0ebf5040ea508b7e86b12f97025491f1b2377f7c405579ecf7d212e5a72", func := "loop.example/g03402/laws.FnExactDoubleCover", spec := "fnExactDoubleCover", apart := false }
def FnExactDoubleCoverSaid : Prop := fnExactDoubleCoverRow.holds Try.pinned (OpenSpec.ofChange fnExactDoubleCoverSpec)

/-- ITS FALSE NEIGHBOUR: 'it returns false'. Refute it at one input. -/
def fnExactDoubleCoverWrong : ChangeSpec := { name := "fnExactDoubleCover", fn := fun _ => fun
  | [d1, d2] => { results := [.lit (.bool false)], args := [d1, d2] }
  | _ => none }
def FnExactDoubleCoverWrongFalsely : Prop := fnExactDoubleCoverRow.holds Try.pinned (OpenSpec.ofChange fnExactDoubleCoverWrong)

/-- 'laws.FnExactSmallCoset': WHATEVER THE INPUT: true; the input reads as it did. -/
def fnExactSmallCosetSpec : ChangeSpec := { name := "fnExactSmallCoset", fn := fun _ => fun
  | [d1, d2] => { results := [.lit (.bool true)], args := [d1, d2] }
  | _ => none }
def fnExactSmallCosetRow : OpenClaim := { program := "ytopdmgfbpdcnlaa", sum := "4cbde0ebf5040ea508b7e86b12f97025491f1b2377f7c405579ecf7d212e5a72", func := "loop.example/g03402/laws.FnExactSmallCoset", spec := "fnExactSmallCoset", apart := false }
def FnExactSmallCosetSaid : Prop := fnExactSmallCosetRow.holds Try.pinned (OpenSpec.ofChange fnExactSmallCosetSpec)

/-- ITS FALSE NEIGHBOUR: 'it returns false'. Refute it at one input. -/
def fnExactSmallCosetWrong : ChangeSpec := { name := "fnExactSmallCoset", fn := fun _ => fun
  | [d1, d2] => { results := [.lit (.bool false)], args := [d1, d2] }
  | _ => none }
def FnExactSmallCosetWrongFalsely : Prop := fnExactSmallCosetRow.holds Try.pinned (OpenSpec.ofChange fnExactSmallCosetWrong)

/-- 'laws.FnExactLeastSize': WHATEVER THE INPUT: true; the input reads as it did. -/
def fnExactLeastSizeSpec : ChangeSpec := { name := "fnExactLeastSize", fn := fun _ => fun
  | [d1, d2, d3] => { results := [.lit (.bool true)], args := [d1, d2, d3] }
  | _ => none }
def fnExactLeastSizeRow : OpenClaim := { program := "ytopdmgfbpdcnlaa", sum := "4cbde0ebf5040ea508b7e86b12f97025491f1b2377f7c405579ecf7d212e5a72", func := "loop.example/g03402/laws.FnExactLeastSize", spec := "fnExactLeastSize", apart := false }
def FnExactLeastSizeSaid : Prop := fnExactLeastSizeRow.holds Try.pinned (OpenSpec.ofChange fnExactLeastSizeSpec)

/-- ITS FALSE NEIGHBOUR: 'it returns false'. Refute it at one input. -/
def fnExactLeastSizeWrong : ChangeSpec := { name := "fnExactLeastSize", fn := fun _ => fun
  | [d1, d2, d3] => { results := [.lit (.bool false)], args := [d1, d2, d3] }
  | _ => none }
def FnExactLeastSizeWrongFalsely : Prop := fnExactLeastSizeRow.holds Try.pinned (OpenSpec.ofChange fnExactLeastSizeWrong)

/-- 'laws.FnExactLargestClique': WHATEVER THE INPUT: true; the input reads as it did. -/
def fnExactLargestCliqueSpec : ChangeSpec := { name := "fnExactLargestClique", fn := fun _ => fun
  | [d1, d2] => { results := [.lit (.bool true)], args := [d1, d2] }
  | _ => none }
def fnExactLargestCliqueRow : OpenClaim := { program := "ytopdmgfbpdcnlaa", sum := "4cbde0ebf5040ea508b7e86b12f97025491f1b2377f7c405579ecf7d212e5a72", func := "loop.example/g03402/laws.FnExactLargestClique", spec := "fnExactLargestClique", unfollowed := true, recurses := true, apart := false }
def FnExactLargestCliqueSaid : Prop := fnExactLargestCliqueRow.holds Try.pinned (OpenSpec.ofChange fnExactLargestCliqueSpec)

/-- ITS FALSE NEIGHBOUR: 'it returns false'. Refute it at one input. -/
def fnExactLargestCliqueWrong : ChangeSpec := { name := "fnExactLargestClique", fn := fun _ => fun
  | [d1, d2] => { results := [.lit (.bool false)], args := [d1, d2] }
  | _ => none }
def FnExactLargestCliqueWrongFalsely : Prop := fnExactLargestCliqueRow.holds Try.pinned (OpenSpec.ofChange fnExactLargestCliqueWrong)

/-- 'laws.FnExactEnergyOfKept': WHATEVER THE INPUT: true; the input reads as it did. -/
def fnExactEnergyOfKeptSpec : ChangeSpec := { name := "fnExactEnergyOfKept", fn := fun _ => fun
  | [d] => { results := [.lit (.bool true)], args := [d] }
  | _ => none }
def fnExactEnergyOfKeptRow : OpenClaim := { program := "ytopdmgfbpdcnlaa", sum := "4cbde0ebf5040ea508b7e86b12f97025491f1b2377f7c405579ecf7d212e5a72", func := "loop.example/g03402/laws.FnExactEnergyOfKept", spec := "fnExactEnergyOfKept", apart := false }
def FnExactEnergyOfKeptSaid : Prop := fnExactEnergyOfKeptRow.holds Try.pinned (OpenSpec.ofChange fnExactEnergyOfKeptSpec)

/-- ITS FALSE NEIGHBOUR: 'it returns false'. Refute it at one input. -/
def fnExactEnergyOfKeptWrong : ChangeSpec := { name := "fnExactEnergyOfKept", fn := fun _ => fun
  | [d] => { results := [.lit (.bool false)], args := [d] }
  | _ => none }
def FnExactEnergyOfKeptWrongFalsely : Prop := fnExactEnergyOfKeptRow.holds Try.pinned (OpenSpec.ofChange fnExactEnergyOfKeptWrong)

/-- 'laws.FnExactSumsOfKept': WHATEVER THE INPUT: true; the input reads as it did. -/
def fnExactSumsOfKeptSpec : ChangeSpec := { name := "fnExactSumsOfKept", fn := fun _ => fun
  | [d] => { results := [.lit (.bool true)], args := [d] }
  | _ => none }
def fnExactSumsOfKeptRow : OpenClaim := { program := "ytopdmgfbpdcnlaa", sum := "4cbde0ebf5040ea508b7e86b12f97025491f1b2377f7c405579ecf7d212e5a72", func := "loop.example/g03402/laws.FnExactSumsOfKept", spec := "fnExactSumsOfKept", apart := false }
def FnExactSumsOfKeptSaid : Prop := fnExactSumsOfKeptRow.holds Try.pinned (OpenSpec.ofChange fnExactSumsOfKeptSpec)

/-- ITS FALSE NEIGHBOUR: 'it returns false'. Refute it at one input. -/
def fnExactSumsOfKeptWrong : ChangeSpec := { name := "fnExactSumsOfKept", fn := fun _ => fun
  | [d] => { results := [.lit (.bool false)], args := [d] }
  | _ => none }
def FnExactSumsOfKeptWrongFalsely : Prop := fnExactSumsOfKeptRow.holds Try.pinned (OpenSpec.ofChange fnExactSumsOfKeptWrong)

/-- 'laws.FnExactDiameterOfCayley': WHATEVER THE INPUT: true; the input reads as it did. -/
def fnExactDiameterOfCayleySpec : ChangeSpec := { name := "fnExactDiameterOfCayley", fn := fun _ => fun
  | [d1, d2] => { results := [.lit (.bool true)], args := [d1, d2] }
  | _ => none }
def fnExactDiameterOfCayleyRow : OpenClaim := { program := "ytopdmgfbpdcnlaa", sum := "4cbde0ebf5040ea508b7e86b12f97025491f1b2377f7c405579ecf7d212e5a72", func := "loop.example/g03402/laws.FnExactDiameterOfCayley", spec := "fnExactDiameterOfCayley", apart := false }
def FnExactDiameterOfCayleySaid : Prop := fnExactDiameterOfCayleyRow.holds Try.pinned (OpenSpec.ofChange fnExactDiameterOfCayleySpec)

/-- ITS FALSE NEIGHBOUR: 'it returns false'. Refute it at one input. -/
def fnExactDiameterOfCayleyWrong : ChangeSpec := { name := "fnExactDiameterOfCayley", fn := fun _ => fun
  | [d1, d2] => { results := [.lit (.bool false)], args := [d1, d2] }
  | _ => none }
def FnExactDiameterOfCayleyWrongFalsely : Prop := fnExactDiameterOfCayleyRow.holds Try.pinned (OpenSpec.ofChange fnExactDiameterOfCayleyWrong)

/-- 'laws.FnExactLeastExpansion': WHATEVER THE INPUT: true; the input reads as it did. -/
def fnExactLeastExpansionSpec : ChangeSpec := { name := "fnExactLeastExpansion", fn := fun _ => fun
  | [d1, d2] => { results := [.lit (.bool true)], args := [d1, d2] }
  | _ => none }
def fnExactLeastExpansionRow : OpenClaim := { program := "ytopdmgfbpdcnlaa", sum := "4cbde0ebf5040ea508b7e86b12f97025491f1b2377f7c405579ecf7d212e5a72", func := "loop.example/g03402/laws.FnExactLeastExpansion", spec := "fnExactLeastExpansion", apart := false }
def FnExactLeastExpansionSaid : Prop := fnExactLeastExpansionRow.holds Try.pinned (OpenSpec.ofChange fnExactLeastExpansionSpec)

/-- ITS FALSE NEIGHBOUR: 'it returns false'. Refute it at one input. -/
def fnExactLeastExpansionWrong : ChangeSpec := { name := "fnExactLeastExpansion", fn := fun _ => fun
  | [d1, d2] => { results := [.lit (.bool false)], args := [d1, d2] }
  | _ => none }
def FnExactLeastExpansionWrongFalsely : Prop := fnExactLeastExpansionRow.holds Try.pinned (OpenSpec.ofChange fnExactLeastExpansionWrong)

/-- 'laws.FnExactPartsOfCayley': WHATEVER THE INPUT: true; the input reads as it did. -/
def fnExactPartsOfCayleySpec : ChangeSpec := { name := "fnExactPartsOfCayley", fn := fun _ => fun
  | [d1, d2] => { results := [.lit (.bool true)], args := [d1, d2] }
  | _ => none }
def fnExactPartsOfCayleyRow : OpenClaim := { program := "ytopdmgfbpdcnlaa", sum := "4cbde0ebf5040ea508b7e86b12f97025491f1b2377f7c405579ecf7d212e5a72", func := "loop.example/g03402/laws.FnExactPartsOfCayley", spec := "fnExactPartsOfCayley", apart := false }
def FnExactPartsOfCayleySaid : Prop := fnExactPartsOfCayleyRow.holds Try.pinned (OpenSpec.ofChange fnExactPartsOfCayleySpec)

/-- ITS FALSE NEIGHBOUR: 'it returns false'. Refute it at one input. -/
def fnExactPartsOfCayleyWrong : ChangeSpec := { name := "fnExactPartsOfCayley", fn := fun _ => fun
  | [d1, d2] => { results := [.lit (.bool false)], args := [d1, d2] }
  | _ => none }
def FnExactPartsOfCayleyWrongFalsely : Prop := fnExactPartsOfCayleyRow.holds Try.pinned (OpenSpec.ofChange fnExactPartsOfCayleyWrong)

/-- 'laws.FnExactAddTo': WHATEVER THE INPUT: true; the input reads as it did. -/
def fnExactAddToSpec : ChangeSpec := { name := "fnExactAddTo", fn := fun _ => fun
  | [d1, d2] => { results := [.lit (.bool true)], args := [d1, d2] }
  | _ => none }
def fnExactAddToRow : OpenClaim := { program := "ytopdmgfbpdcnlaa", sum := "4cbde0ebf5040ea508b7e86b12f97025491f1b2377f7c405579ecf7d212e5a72", func := "loop.example/g03402/laws.FnExactAddTo", spec := "fnExactAddTo", apart := false }
def FnExactAddToSaid : Prop := fnExactAddToRow.holds Try.pinned (OpenSpec.ofChange fnExactAddToSpec)

/-- ITS FALSE NEIGHBOUR: 'it returns false'. Refute it at one input. -/
def fnExactAddToWrong : ChangeSpec := { name := "fnExactAddTo", fn := fun _ => fun
  | [d1, d2] => { results := [.lit (.bool false)], args := [d1, d2] }
  | _ => none }
def FnExactAddToWrongFalsely : Prop := fnExactAddToRow.holds Try.pinned (OpenSpec.ofChange fnExactAddToWrong)

/- THE SECOND FORM. 'bulk': how many values and letters a reading holds, each counted each time it is reached (what is shared counts as often as it is met; a slice's spare places count too). A statement '..UptoSaid' is the law's where the arguments, and the package variables that the reading takes, are together of bulk at most 1048576: NARROWER than '..Said'. Prove '..Said' where nothing that the law and all that it calls make is longer than what came in: it says more and counts as full. Else prove '..UptoSaid'. A law counts once. -/
mutual
def uptoBulk {H : Type} : DataW H → Nat
  | .lit (.string bytes) => bytes.length + 1
  | .lit _ => 1
  | .nil => 1
  | .ptr d => uptoBulk d + 1
  | .slice elems spare => uptoBulkAll elems + uptoBulkAll spare + 1
  | .agg parts => uptoBulkAll parts + 1
  | .iface _ d => uptoBulk d + 1
  | .map entries => uptoBulkEntries entries + 1
  | .held _ => 1
def uptoBulkAll {H : Type} : List (DataW H) → Nat
  | [] => 0
  | d :: r => uptoBulk d + uptoBulkAll r
def uptoBulkEntries {H : Type} : List (Lit × DataW H) → Nat
  | [] => 0
  | x :: r => uptoBulkEntry x + uptoBulkEntries r
def uptoBulkEntry {H : Type} : Lit × DataW H → Nat
  | (.string bytes, d) => bytes.length + uptoBulk d + 1
  | (_, d) => uptoBulk d + 1
 end
def uptoSmall : (H : Type) → List (DataW H) → Bool := fun _ ds => decide (uptoBulkAll ds ≤ 1048576)
def OpenSpec.upto (s : _root_.Go.ChangeSpec) : _root_.Go.OpenSpec := { _root_.Go.OpenSpec.ofChange s with cond := some uptoSmall }

/-- 'laws.FnExactLeastSumset', WHERE WHAT IT READS IS OF BULK AT MOST 1048576: true; the input reads as it did. -/
def fnExactLeastSumsetUptoRow : OpenClaim := { program := "ytopdmgfbpdcnlaa", sum := "4cbde0ebf5040ea508b7e86b12f97025491f1b2377f7c405579ecf7d212e5a72", func := "loop.example/g03402/laws.FnExactLeastSumset", spec := "fnExactLeastSumset", apart := false, narrowed := true }
def FnExactLeastSumsetUptoSaid : Prop := fnExactLeastSumsetUptoRow.holds Try.pinned (OpenSpec.upto fnExactLeastSumsetSpec)

/-- 'laws.FnExactNewKept', WHERE WHAT IT READS IS OF BULK AT MOST 1048576: true; the input reads as it did. -/
def fnExactNewKeptUptoRow : OpenClaim := { program := "ytopdmgfbpdcnlaa", sum := "4cbde0ebf5040ea508b7e86b12f97025491f1b2377f7c405579ecf7d212e5a72", func := "loop.example/g03402/laws.FnExactNewKept", spec := "fnExactNewKept", apart := false, narrowed := true }
def FnExactNewKeptUptoSaid : Prop := fnExactNewKeptUptoRow.holds Try.pinned (OpenSpec.upto fnExactNewKeptSpec)

/-- 'laws.FnExactDoubleCover', WHERE WHAT IT READS IS OF BULK AT MOST 1048576: true; the input reads as it did. -/
def fnExactDoubleCoverUptoRow : OpenClaim := { program := "ytopdmgfbpdcnlaa", sum := "4cbde0ebf5040ea508b7e86b12f97025491f1b2377f7c405579ecf7d212e5a72", func := "loop.example/g03402/laws.FnExactDoubleCover", spec := "fnExactDoubleCover", apart := false, narrowed := true }
def FnExactDoubleCoverUptoSaid : Prop := fnExactDoubleCoverUptoRow.holds Try.pinned (OpenSpec.upto fnExactDoubleCoverSpec)

/-- 'laws.FnExactSmallCoset', WHERE WHAT IT READS IS OF BULK AT MOST 1048576: true; the input reads as it did. -/
def fnExactSmallCosetUptoRow : OpenClaim := { program := "ytopdmgfbpdcnlaa", sum := "4cbde0ebf5040ea508b7e86b12f97025491f1b2377f7c405579ecf7d212e5a72", func := "loop.example/g03402/laws.FnExactSmallCoset", spec := "fnExactSmallCoset", apart := false, narrowed := true }
def FnExactSmallCosetUptoSaid : Prop := fnExactSmallCosetUptoRow.holds Try.pinned (OpenSpec.upto fnExactSmallCosetSpec)

/-- 'laws.FnExactLeastSize', WHERE WHAT IT READS IS OF BULK AT MOST 1048576: true; the input reads as it did. -/
def fnExactLeastSizeUptoRow : OpenClaim := { program := "ytopdmgfbpdcnlaa", sum := "4cbde0ebf5040ea508b7e86b12f97025491f1b2377f7c405579ecf7d212e5a72", func := "loop.example/g03402/laws.FnExactLeastSize", spec := "fnExactLeastSize", apart := false, narrowed := true }
def FnExactLeastSizeUptoSaid : Prop := fnExactLeastSizeUptoRow.holds Try.pinned (OpenSpec.upto fnExactLeastSizeSpec)

/-- 'laws.FnExactLargestClique', WHERE WHAT IT READS IS OF BULK AT MOST 1048576: true; the input reads as it did. -/
def fnExactLargestCliqueUptoRow : OpenClaim := { program := "ytopdmgfbpdcnlaa", sum := "4cbde0ebf5040ea508b7e86b12f97025491f1b2377f7c405579ecf7d212e5a72", func := "loop.example/g03402/laws.FnExactLargestClique", spec := "fnExactLargestClique", unfollowed := true, recurses := true, apart := false, narrowed := true }
def FnExactLargestCliqueUptoSaid : Prop := fnExactLargestCliqueUptoRow.holds Try.pinned (OpenSpec.upto fnExactLargestCliqueSpec)

/-- 'laws.FnExactEnergyOfKept', WHERE WHAT IT READS IS OF BULK AT MOST 1048576: true; the input reads as it did. -/
def fnExactEnergyOfKeptUptoRow : OpenClaim := { program := "ytopdmgfbpdcnlaa", sum := "4cbde0ebf5040ea508b7e86b12f97025491f1b2377f7c405579ecf7d212e5a72", func := "loop.example/g03402/laws.FnExactEnergyOfKept", spec := "fnExactEnergyOfKept", apart := false, narrowed := true }
def FnExactEnergyOfKeptUptoSaid : Prop := fnExactEnergyOfKeptUptoRow.holds Try.pinned (OpenSpec.upto fnExactEnergyOfKeptSpec)

/-- 'laws.FnExactSumsOfKept', WHERE WHAT IT READS IS OF BULK AT MOST 1048576: true; the input reads as it did. -/
def fnExactSumsOfKeptUptoRow : OpenClaim := { program := "ytopdmgfbpdcnlaa", sum := "4cbde0ebf5040ea508b7e86b12f97025491f1b2377f7c405579ecf7d212e5a72", func := "loop.example/g03402/laws.FnExactSumsOfKept", spec := "fnExactSumsOfKept", apart := false, narrowed := true }
def FnExactSumsOfKeptUptoSaid : Prop := fnExactSumsOfKeptUptoRow.holds Try.pinned (OpenSpec.upto fnExactSumsOfKeptSpec)

/-- 'laws.FnExactDiameterOfCayley', WHERE WHAT IT READS IS OF BULK AT MOST 1048576: true; the input reads as it did. -/
def fnExactDiameterOfCayleyUptoRow : OpenClaim := { program := "ytopdmgfbpdcnlaa", sum := "4cbde0ebf5040ea508b7e86b12f97025491f1b2377f7c405579ecf7d212e5a72", func := "loop.example/g03402/laws.FnExactDiameterOfCayley", spec := "fnExactDiameterOfCayley", apart := false, narrowed := true }
def FnExactDiameterOfCayleyUptoSaid : Prop := fnExactDiameterOfCayleyUptoRow.holds Try.pinned (OpenSpec.upto fnExactDiameterOfCayleySpec)

/-- 'laws.FnExactLeastExpansion', WHERE WHAT IT READS IS OF BULK AT MOST 1048576: true; the input reads as it did. -/
def fnExactLeastExpansionUptoRow : OpenClaim := { program := "ytopdmgfbpdcnlaa", sum := "4cbde0ebf5040ea508b7e86b12f97025491f1b2377f7c405579ecf7d212e5a72", func := "loop.example/g03402/laws.FnExactLeastExpansion", spec := "fnExactLeastExpansion", apart := false, narrowed := true }
def FnExactLeastExpansionUptoSaid : Prop := fnExactLeastExpansionUptoRow.holds Try.pinned (OpenSpec.upto fnExactLeastExpansionSpec)

/-- 'laws.FnExactPartsOfCayley', WHERE WHAT IT READS IS OF BULK AT MOST 1048576: true; the input reads as it did. -/
def fnExactPartsOfCayleyUptoRow : OpenClaim := { program := "ytopdmgfbpdcnlaa", sum := "4cbde0ebf5040ea508b7e86b12f97025491f1b2377f7c405579ecf7d212e5a72", func := "loop.example/g03402/laws.FnExactPartsOfCayley", spec := "fnExactPartsOfCayley", apart := false, narrowed := true }
def FnExactPartsOfCayleyUptoSaid : Prop := fnExactPartsOfCayleyUptoRow.holds Try.pinned (OpenSpec.upto fnExactPartsOfCayleySpec)

/-- 'laws.FnExactAddTo', WHERE WHAT IT READS IS OF BULK AT MOST 1048576: true; the input reads as it did. -/
def fnExactAddToUptoRow : OpenClaim := { program := "ytopdmgfbpdcnlaa", sum := "4cbde0ebf5040ea508b7e86b12f97025491f1b2377f7c405579ecf7d212e5a72", func := "loop.example/g03402/laws.FnExactAddTo", spec := "fnExactAddTo", apart := false, narrowed := true }
def FnExactAddToUptoSaid : Prop := fnExactAddToUptoRow.holds Try.pinned (OpenSpec.upto fnExactAddToSpec)

end Rows
end Go.Proofs.Ytopdmgfbpdcnlaa
