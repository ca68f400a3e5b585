/-
  No cell of these rows narrows 'for every input' (looked for: loops, veiled, ifaces, maps, wideKeys, modest, calm, conditions, laid).
  DERIVED. THE GIVEN ROWS OF THIS SEAT. 11 by the template 'for every input the law returns true; each argument reads behind the call as it read before'; 0 by the template 'total and deterministic' (their statements: YtpflnogcngeemaaTotals.lean).
  GIVEN WITH THE SEED: the statements are not yours to turn. If you find one false, say at which input.
  Laid BY PROGRAM, IN A SANDBOX (cutbox-rows.mjs): the forced cells as the released guide's own fill.sh prints them over the translation e873e141d4b648ab… (all of the seat's roots in one cut). By AI agents, Wed Nov 11 2026. No macro, syntax, notation, axiom, sorry.
-/
import Derived.Test.YtpflnogcngeemaaChecked
import GoSem.Claim
import GoSem.ClaimJoined
import GoSem.ClaimMapViews
import Derived.JoinedTies
import Derived.KernelRfl
namespace Go.Proofs.Ytpflnogcngeemaa
/- THE CELL 'sum', in the pinned program and in every row, IS THE sha256 OF THE DUMP (.gsa) THAT YtpflnogcngeemaaProg.lean LOADS. Nothing in Lean hashes anything: it is a label: what it is worth is what the hold of that sum in a sandbox is worth. -/
noncomputable def Try.pinned : Pinned := { name := "ytpflnogcngeemaa", sum := "e873e141d4b648ab405fc7e5c3bf97840667f96a614a78a5eb92e6bd95375e7f", checked := Try.checked }
namespace Rows
def none {H : Type} : Left H := { results := [], args := [] }

/-- 'laws.FnExtremal': WHATEVER THE INPUT: true; the input reads as it did. -/
def fnExtremalSpec : ChangeSpec := { name := "fnExtremal", fn := fun _ => fun
  | [d] => { results := [.lit (.bool true)], args := [d] }
  | _ => none }
def fnExtremalRow : OpenClaim := { program := "ytpflnogcngeemaa", sum := "e873e141d4b648ab405fc7e5c3bf97840667f96a614a78a5eb92e6bd95375e7f", func := "loop.example/g03402/laws.FnExtremal", spec := "fnExtremal", apart := false }
def FnExtremalSaid : Prop := fnExtremalRow.holds Try.pinned (OpenSpec.ofChange fnExtremalSpec)

/-- ITS FALSE NEIGHBOUR: 'it returns false'. Refute it at one input. -/
def fnExtremalWrong : ChangeSpec := { name := "fnExtremal", fn := fun _ => fun
  | [d] => { results := [.lit (.bool false)], args := [d] }
  | _ => none }
def FnExtremalWrongFalsely : Prop := fnExtremalRow.holds Try.pinned (OpenSpec.ofChange fnExtremalWrong)

/-- 'laws.FnExactClaimOfColors': WHATEVER THE INPUT: true; the input reads as it did. -/
def fnExactClaimOfColorsSpec : ChangeSpec := { name := "fnExactClaimOfColors", fn := fun _ => fun
  | [d] => { results := [.lit (.bool true)], args := [d] }
  | _ => none }
def fnExactClaimOfColorsRow : OpenClaim := { program := "ytpflnogcngeemaa", sum := "e873e141d4b648ab405fc7e5c3bf97840667f96a614a78a5eb92e6bd95375e7f", func := "loop.example/g03402/laws.FnExactClaimOfColors", spec := "fnExactClaimOfColors", unfollowed := true, recurses := true, apart := false }
def FnExactClaimOfColorsSaid : Prop := fnExactClaimOfColorsRow.holds Try.pinned (OpenSpec.ofChange fnExactClaimOfColorsSpec)

/-- ITS FALSE NEIGHBOUR: 'it returns false'. Refute it at one input. -/
def fnExactClaimOfColorsWrong : ChangeSpec := { name := "fnExactClaimOfColors", fn := fun _ => fun
  | [d] => { results := [.lit (.bool false)], args := [d] }
  | _ => none }
def FnExactClaimOfColorsWrongFalsely : Prop := fnExactClaimOfColorsRow.holds Try.pinned (OpenSpec.ofChange fnExactClaimOfColorsWrong)

/-- 'laws.FnExactIsCovering': WHATEVER THE INPUT: true; the input reads as it did. -/
def fnExactIsCoveringSpec : ChangeSpec := { name := "fnExactIsCovering", fn := fun _ => fun
  | [d1, d2, d3] => { results := [.lit (.bool true)], args := [d1, d2, d3] }
  | _ => none }
def fnExactIsCoveringRow : OpenClaim := { program := "ytpflnogcngeemaa", sum := "e873e141d4b648ab405fc7e5c3bf97840667f96a614a78a5eb92e6bd95375e7f", func := "loop.example/g03402/laws.FnExactIsCovering", spec := "fnExactIsCovering", apart := false }
def FnExactIsCoveringSaid : Prop := fnExactIsCoveringRow.holds Try.pinned (OpenSpec.ofChange fnExactIsCoveringSpec)

/-- ITS FALSE NEIGHBOUR: 'it returns false'. Refute it at one input. -/
def fnExactIsCoveringWrong : ChangeSpec := { name := "fnExactIsCovering", fn := fun _ => fun
  | [d1, d2, d3] => { results := [.lit (.bool false)], args := [d1, d2, d3] }
  | _ => none }
def FnExactIsCoveringWrongFalsely : Prop := fnExactIsCoveringRow.holds Try.pinned (OpenSpec.ofChange fnExactIsCoveringWrong)

/-- 'laws.FnExactIsSmallDoubling': WHATEVER THE INPUT: true; the input reads as it did. -/
def fnExactIsSmallDoublingSpec : ChangeSpec := { name := "fnExactIsSmallDoubling", fn := fun _ => fun
  | [d1, d2] => { results := [.lit (.bool true)], args := [d1, d2] }
  | _ => none }
def fnExactIsSmallDoublingRow : OpenClaim := { program := "ytpflnogcngeemaa", sum := "e873e141d4b648ab405fc7e5c3bf97840667f96a614a78a5eb92e6bd95375e7f", func := "loop.example/g03402/laws.FnExactIsSmallDoubling", spec := "fnExactIsSmallDoubling", apart := false }
def FnExactIsSmallDoublingSaid : Prop := fnExactIsSmallDoublingRow.holds Try.pinned (OpenSpec.ofChange fnExactIsSmallDoublingSpec)

/-- ITS FALSE NEIGHBOUR: 'it returns false'. Refute it at one input. -/
def fnExactIsSmallDoublingWrong : ChangeSpec := { name := "fnExactIsSmallDoubling", fn := fun _ => fun
  | [d1, d2] => { results := [.lit (.bool false)], args := [d1, d2] }
  | _ => none }
def FnExactIsSmallDoublingWrongFalsely : Prop := fnExactIsSmallDoublingRow.holds Try.pinned (OpenSpec.ofChange fnExactIsSmallDoublingWrong)

/-- 'laws.FnExactGreedyTranslates': WHATEVER THE INPUT: true; the input reads as it did. -/
def fnExactGreedyTranslatesSpec : ChangeSpec := { name := "fnExactGreedyTranslates", fn := fun _ => fun
  | [d1, d2] => { results := [.lit (.bool true)], args := [d1, d2] }
  | _ => none }
def fnExactGreedyTranslatesRow : OpenClaim := { program := "ytpflnogcngeemaa", sum := "e873e141d4b648ab405fc7e5c3bf97840667f96a614a78a5eb92e6bd95375e7f", func := "loop.example/g03402/laws.FnExactGreedyTranslates", spec := "fnExactGreedyTranslates", apart := false }
def FnExactGreedyTranslatesSaid : Prop := fnExactGreedyTranslatesRow.holds Try.pinned (OpenSpec.ofChange fnExactGreedyTranslatesSpec)

/-- ITS FALSE NEIGHBOUR: 'it returns false'. Refute it at one input. -/
def fnExactGreedyTranslatesWrong : ChangeSpec := { name := "fnExactGreedyTranslates", fn := fun _ => fun
  | [d1, d2] => { results := [.lit (.bool false)], args := [d1, d2] }
  | _ => none }
def FnExactGreedyTranslatesWrongFalsely : Prop := fnExactGreedyTranslatesRow.holds Try.pinned (OpenSpec.ofChange fnExactGreedyTranslatesWrong)

/-- 'laws.FnExactIntersectionSizes': WHATEVER THE INPUT: true; the input reads as it did. -/
def fnExactIntersectionSizesSpec : ChangeSpec := { name := "fnExactIntersectionSizes", fn := fun _ => fun
  | [d1, d2, d3] => { results := [.lit (.bool true)], args := [d1, d2, d3] }
  | _ => none }
def fnExactIntersectionSizesRow : OpenClaim := { program := "ytpflnogcngeemaa", sum := "e873e141d4b648ab405fc7e5c3bf97840667f96a614a78a5eb92e6bd95375e7f", func := "loop.example/g03402/laws.FnExactIntersectionSizes", spec := "fnExactIntersectionSizes", apart := false }
def FnExactIntersectionSizesSaid : Prop := fnExactIntersectionSizesRow.holds Try.pinned (OpenSpec.ofChange fnExactIntersectionSizesSpec)

/-- ITS FALSE NEIGHBOUR: 'it returns false'. Refute it at one input. -/
def fnExactIntersectionSizesWrong : ChangeSpec := { name := "fnExactIntersectionSizes", fn := fun _ => fun
  | [d1, d2, d3] => { results := [.lit (.bool false)], args := [d1, d2, d3] }
  | _ => none }
def FnExactIntersectionSizesWrongFalsely : Prop := fnExactIntersectionSizesRow.holds Try.pinned (OpenSpec.ofChange fnExactIntersectionSizesWrong)

/-- 'laws.FnExactMostDouble': WHATEVER THE INPUT: true; the input reads as it did. -/
def fnExactMostDoubleSpec : ChangeSpec := { name := "fnExactMostDouble", fn := fun _ => fun
  | [d1, d2] => { results := [.lit (.bool true)], args := [d1, d2] }
  | _ => none }
def fnExactMostDoubleRow : OpenClaim := { program := "ytpflnogcngeemaa", sum := "e873e141d4b648ab405fc7e5c3bf97840667f96a614a78a5eb92e6bd95375e7f", func := "loop.example/g03402/laws.FnExactMostDouble", spec := "fnExactMostDouble", apart := false }
def FnExactMostDoubleSaid : Prop := fnExactMostDoubleRow.holds Try.pinned (OpenSpec.ofChange fnExactMostDoubleSpec)

/-- ITS FALSE NEIGHBOUR: 'it returns false'. Refute it at one input. -/
def fnExactMostDoubleWrong : ChangeSpec := { name := "fnExactMostDouble", fn := fun _ => fun
  | [d1, d2] => { results := [.lit (.bool false)], args := [d1, d2] }
  | _ => none }
def FnExactMostDoubleWrongFalsely : Prop := fnExactMostDoubleRow.holds Try.pinned (OpenSpec.ofChange fnExactMostDoubleWrong)

/-- 'laws.FnExactLeastDouble': WHATEVER THE INPUT: true; the input reads as it did. -/
def fnExactLeastDoubleSpec : ChangeSpec := { name := "fnExactLeastDouble", fn := fun _ => fun
  | [d1, d2] => { results := [.lit (.bool true)], args := [d1, d2] }
  | _ => none }
def fnExactLeastDoubleRow : OpenClaim := { program := "ytpflnogcngeemaa", sum := "e873e141d4b648ab405fc7e5c3bf97840667f96a614a78a5eb92e6bd95375e7f", func := "loop.example/g03402/laws.FnExactLeastDouble", spec := "fnExactLeastDouble", apart := false }
def FnExactLeastDoubleSaid : Prop := fnExactLeastDoubleRow.holds Try.pinned (OpenSpec.ofChange fnExactLeastDoubleSpec)

/-- ITS FALSE NEIGHBOUR: 'it returns false'. Refute it at one input. -/
def fnExactLeastDoubleWrong : ChangeSpec := { name := "fnExactLeastDouble", fn := fun _ => fun
  | [d1, d2] => { results := [.lit (.bool false)], args := [d1, d2] }
  | _ => none }
def FnExactLeastDoubleWrongFalsely : Prop := fnExactLeastDoubleRow.holds Try.pinned (OpenSpec.ofChange fnExactLeastDoubleWrong)

/-- 'laws.FnExactFewestTranslates': WHATEVER THE INPUT: true; the input reads as it did. -/
def fnExactFewestTranslatesSpec : ChangeSpec := { name := "fnExactFewestTranslates", fn := fun _ => fun
  | [d1, d2] => { results := [.lit (.bool true)], args := [d1, d2] }
  | _ => none }
def fnExactFewestTranslatesRow : OpenClaim := { program := "ytpflnogcngeemaa", sum := "e873e141d4b648ab405fc7e5c3bf97840667f96a614a78a5eb92e6bd95375e7f", func := "loop.example/g03402/laws.FnExactFewestTranslates", spec := "fnExactFewestTranslates", apart := false }
def FnExactFewestTranslatesSaid : Prop := fnExactFewestTranslatesRow.holds Try.pinned (OpenSpec.ofChange fnExactFewestTranslatesSpec)

/-- ITS FALSE NEIGHBOUR: 'it returns false'. Refute it at one input. -/
def fnExactFewestTranslatesWrong : ChangeSpec := { name := "fnExactFewestTranslates", fn := fun _ => fun
  | [d1, d2] => { results := [.lit (.bool false)], args := [d1, d2] }
  | _ => none }
def FnExactFewestTranslatesWrongFalsely : Prop := fnExactFewestTranslatesRow.holds Try.pinned (OpenSpec.ofChange fnExactFewestTranslatesWrong)

/-- 'laws.FnExactMostTranslates': WHATEVER THE INPUT: true; the input reads as it did. -/
def fnExactMostTranslatesSpec : ChangeSpec := { name := "fnExactMostTranslates", fn := fun _ => fun
  | [d1, d2] => { results := [.lit (.bool true)], args := [d1, d2] }
  | _ => none }
def fnExactMostTranslatesRow : OpenClaim := { program := "ytpflnogcngeemaa", sum := "e873e141d4b648ab405fc7e5c3bf97840667f96a614a78a5eb92e6bd95375e7f", func := "loop.example/g03402/laws.FnExactMostTranslates", spec := "fnExactMostTranslates", apart := false }
def FnExactMostTranslatesSaid : Prop := fnExactMostTranslatesRow.holds Try.pinned (OpenSpec.ofChange fnExactMostTranslatesSpec)

/-- ITS FALSE NEIGHBOUR: 'it returns false'. Refute it at one input. -/
def fnExactMostTranslatesWrong : ChangeSpec := { name := "fnExactMostTranslates", fn := fun _ => fun
  | [d1, d2] => { results := [.lit (.bool false)], args := [d1, d2] }
  | _ => none }
def FnExactMostTranslatesWrongFalsely : Prop := fnExactMostTranslatesRow.holds Try.pinned (OpenSpec.ofChange fnExactMostTranslatesWrong)

/-- 'laws.FnExactIsKept': WHATEVER THE INPUT: true; the input reads as it did. -/
def fnExactIsKeptSpec : ChangeSpec := { name := "fnExactIsKept", fn := fun _ => fun
  | [d] => { results := [.lit (.bool true)], args := [d] }
  | _ => none }
def fnExactIsKeptRow : OpenClaim := { program := "ytpflnogcngeemaa", sum := "e873e141d4b648ab405fc7e5c3bf97840667f96a614a78a5eb92e6bd95375e7f", func := "loop.example/g03402/laws.FnExactIsKept", spec := "fnExactIsKept", apart := false }
def FnExactIsKeptSaid : Prop := fnExactIsKeptRow.holds Try.pinned (OpenSpec.ofChange fnExactIsKeptSpec)

/-- ITS FALSE NEIGHBOUR: 'it returns false'. Refute it at one input. -/
def fnExactIsKeptWrong : ChangeSpec := { name := "fnExactIsKept", fn := fun _ => fun
  | [d] => { results := [.lit (.bool false)], args := [d] }
  | _ => none }
def FnExactIsKeptWrongFalsely : Prop := fnExactIsKeptRow.holds Try.pinned (OpenSpec.ofChange fnExactIsKeptWrong)

/- THE SECOND FORM. 'bulk': how many values and letters a reading holds, each counted each time it is reached (what is shared counts as often as it is met; a slice's spare places count too). A statement '..UptoSaid' is the law's where the arguments, and the package variables that the reading takes, are together of bulk at most 1048576: NARROWER than '..Said'. Prove '..Said' where nothing that the law and all that it calls make is longer than what came in: it says more and counts as full. Else prove '..UptoSaid'. A law counts once. -/
mutual
def uptoBulk {H : Type} : DataW H → Nat
  | .lit (.string bytes) => bytes.length + 1
  | .lit _ => 1
  | .nil => 1
  | .ptr d => uptoBulk d + 1
  | .slice elems spare => uptoBulkAll elems + uptoBulkAll spare + 1
  | .agg parts => uptoBulkAll parts + 1
  | .iface _ d => uptoBulk d + 1
  | .map entries => uptoBulkEntries entries + 1
  | .held _ => 1
def uptoBulkAll {H : Type} : List (DataW H) → Nat
  | [] => 0
  | d :: r => uptoBulk d + uptoBulkAll r
def uptoBulkEntries {H : Type} : List (Lit × DataW H) → Nat
  | [] => 0
  | x :: r => uptoBulkEntry x + uptoBulkEntries r
def uptoBulkEntry {H : Type} : Lit × DataW H → Nat
  | (.string bytes, d) => bytes.length + uptoBulk d + 1
  | (_, d) => uptoBulk d + 1
 end
def uptoSmall : (H : Type) → List (DataW H) → Bool := fun _ ds => decide (uptoBulkAll ds ≤ 1048576)
def OpenSpec.upto (s : _root_.Go.ChangeSpec) : _root_.Go.OpenSpec := { _root_.Go.OpenSpec.ofChange s with cond := some uptoSmall }

/-- 'laws.FnExtremal', WHERE WHAT IT READS IS OF BULK AT MOST 1048576: true; the input reads as it did. -/
def fnExtremalUptoRow : OpenClaim := { program := "ytpflnogcngeemaa", sum := "e873e141d4b648ab405fc7e5c3bf97840667f96a614a78a5eb92e6bd95375e7f", func := "loop.example/g03402/laws.FnExtremal", spec := "fnExtremal", apart := false, narrowed := true }
def FnExtremalUptoSaid : Prop := fnExtremalUptoRow.holds Try.pinned (OpenSpec.upto fnExtremalSpec)

/-- 'laws.FnExactClaimOfColors', WHERE WHAT IT READS IS OF BULK AT MOST 1048576: true; the input reads as it did. -/
def fnExactClaimOfColorsUptoRow : OpenClaim := { program := "ytpflnogcngeemaa", sum := "e873e141d4b648ab405fc7e5c3bf97840667f96a614a78a5eb92e6bd95375e7f", func := "loop.example/g03402/laws.FnExactClaimOfColors", spec := "fnExactClaimOfColors", unfollowed := true, recurses := true, apart := false, narrowed := true }
def FnExactClaimOfColorsUptoSaid : Prop := fnExactClaimOfColorsUptoRow.holds Try.pinned (OpenSpec.upto fnExactClaimOfColorsSpec)

/-- 'laws.FnExactIsCovering', WHERE WHAT IT READS IS OF BULK AT MOST 1048576: true; the input reads as it did. -/
def fnExactIsCoveringUptoRow : OpenClaim := { program := "ytpflnogcngeemaa", sum := "e873e141d4b648ab405fc7e5c3bf97840667f96a614a78a5eb92e6bd95375e7f", func := "loop.example/g03402/laws.FnExactIsCovering", spec := "fnExactIsCovering", apart := false, narrowed := true }
def FnExactIsCoveringUptoSaid : Prop := fnExactIsCoveringUptoRow.holds Try.pinned (OpenSpec.upto fnExactIsCoveringSpec)

/-- 'laws.FnExactIsSmallDoubling', WHERE WHAT IT READS IS OF BULK AT MOST 1048576: true; the input reads as it did. -/
def fnExactIsSmallDoublingUptoRow : OpenClaim := { program := "ytpflnogcngeemaa", sum := "e873e141d4b648ab405fc7e5c3bf97840667f96a614a78a5eb92e6bd95375e7f", func := "loop.example/g03402/laws.FnExactIsSmallDoubling", spec := "fnExactIsSmallDoubling", apart := false, narrowed := true }
def FnExactIsSmallDoublingUptoSaid : Prop := fnExactIsSmallDoublingUptoRow.holds Try.pinned (OpenSpec.upto fnExactIsSmallDoublingSpec)

/-- 'laws.FnExactGreedyTranslates', WHERE WHAT IT READS IS OF BULK AT MOST 1048576: true; the input reads as it did. -/
def fnExactGreedyTranslatesUptoRow : OpenClaim := { program := "ytpflnogcngeemaa", sum := "e873e141d4b648ab405fc7e5c3bf97840667f96a614a78a5eb92e6bd95375e7f", func := "loop.example/g03402/laws.FnExactGreedyTranslates", spec := "fnExactGreedyTranslates", apart := false, narrowed := true }
def FnExactGreedyTranslatesUptoSaid : Prop := fnExactGreedyTranslatesUptoRow.holds Try.pinned (OpenSpec.upto fnExactGreedyTranslatesSpec)

/-- 'laws.FnExactIntersectionSizes', WHERE WHAT IT READS IS OF BULK AT MOST 1048576: true; the input reads as it did. -/
def fnExactIntersectionSizesUptoRow : OpenClaim := { program := "ytpflnogcngeemaa", sum := "e873e141d4b648ab405fc7e5c3bf97840667f96a614a78a5eb92e6bd95375e7f", func := "loop.example/g03402/laws.FnExactIntersectionSizes", spec := "fnExactIntersectionSizes", apart := false, narrowed := true }
def FnExactIntersectionSizesUptoSaid : Prop := fnExactIntersectionSizesUptoRow.holds Try.pinned (OpenSpec.upto fnExactIntersectionSizesSpec)

/-- 'laws.FnExactMostDouble', WHERE WHAT IT READS IS OF BULK AT MOST 1048576: true; the input reads as it did. -/
def fnExactMostDoubleUptoRow : OpenClaim := { program := "ytpflnogcngeemaa", sum := "e873e141d4b648ab405fc7e5c3bf97840667f96a614a78a5eb92e6bd95375e7f", func := "loop.example/g03402/laws.FnExactMostDouble", spec := "fnExactMostDouble", apart := false, narrowed := true }
def FnExactMostDoubleUptoSaid : Prop := fnExactMostDoubleUptoRow.holds Try.pinned (OpenSpec.upto fnExactMostDoubleSpec)

/-- 'laws.FnExactLeastDouble', WHERE WHAT IT READS IS OF BULK AT MOST 1048576: true; the input reads as it did. -/
def fnExactLeastDoubleUptoRow : OpenClaim := { program := "ytpflnogcngeemaa", sum := "e873e141d4b648ab405fc7e5c3bf97840667f96a614a78a5eb92e6bd95375e7f", func := "loop.example/g03402/laws.FnExactLeastDouble", spec := "fnExactLeastDouble", apart := false, narrowed := true }
def FnExactLeastDoubleUptoSaid : Prop := fnExactLeastDoubleUptoRow.holds Try.pinned (OpenSpec.upto fnExactLeastDoubleSpec)

/-- 'laws.FnExactFewestTranslates', WHERE WHAT IT READS IS OF BULK AT MOST 1048576: true; the input reads as it did. -/
def fnExactFewestTranslatesUptoRow : OpenClaim := { program := "ytpflnogcngeemaa", sum := "e873e141d4b648ab405fc7e5c3bf97840667f96a614a78a5eb92e6bd95375e7f", func := "loop.example/g03402/laws.FnExactFewestTranslates", spec := "fnExactFewestTranslates", apart := false, narrowed := true }
def FnExactFewestTranslatesUptoSaid : Prop := fnExactFewestTranslatesUptoRow.holds Try.pinned (OpenSpec.upto fnExactFewestTranslatesSpec)

/-- 'laws.FnExactMostTranslates', WHERE WHAT IT READS IS OF BULK AT MOST 1048576: true; the input reads as it did. -/
def fnExactMostTranslatesUptoRow : OpenClaim := { program := "ytpflnogcngeemaa", sum := "e873e141d4b648ab405fc7e5c3bf97840667f96a614a78a5eb92e6bd95375e7f", func := "loop.example/g03402/laws.FnExactMostTranslates", spec := "fnExactMostTranslates", apart := false, narrowed := true }
def FnExactMostTranslatesUptoSaid : Prop := fnExactMostTranslatesUptoRow.holds Try.pinned (OpenSpec.upto fnExactMostTranslatesSpec)

/-- 'laws.FnExactIsKept', WHERE WHAT IT READS IS OF BULK AT MOST 1048576: true; the input reads as it did. -/
def fnExactIsKeptUptoRow : OpenClaim := { program := "ytpflnogcngeemaa", sum := "e873e141d4b648ab405fc7e5c3bf97840667f96a614a78a5eb92e6bd95375e7f", func := "loop.example/g03402/laws.FnExactIsKept", spec := "fnExactIsKept", apart := false, narrowed := true }
def FnExactIsKeptUptoSaid : Prop := fnExactIsKeptUptoRow.holds Try.pinned (OpenSpec.upto fnExactIsKeptSpec)

end Rows
end Go.Proofs.Ytpflnogcngeemaa
