/-
  No cell of these rows narrows 'for every input' (looked for: loops, veiled, ifaces, maps, wideKeys, modest, calm, conditions, laid).
  DERIVED. THE GIVEN ROWS OF THIS SEAT. 12 by the template 'for every input the law returns true; each argument reads behind the call as it read before'; 0 by the template 'total and deterministic' (their statements: YtohdnnamjcfnnaaTotals.lean).
  GIVEN WITH THE SEED: the statements are not yours to turn. If you find one false, say at which input.
  Laid BY PROGRAM, IN A SANDBOX (cutbox-rows.mjs): the forced cells as the released guide's own fill.sh prints them over the translation 7f78be82dc9bfed4… (all of the seat's roots in one cut). By AI agents, Wed Nov 11 2026. No macro, syntax, notation, axiom, sorry.
-/
import Derived.Test.YtohdnnamjcfnnaaChecked
import GoSem.Claim
import GoSem.ClaimJoined
import GoSem.ClaimMapViews
import Derived.JoinedTies
import Derived.KernelRfl
namespace Go.Proofs.Ytohdnnamjcfnnaa
/- THE CELL 'sum', in the pinned program and in every row, IS THE sha256 OF THE DUMP (.gsa) THAT YtohdnnamjcfnnaaProg.lean LOADS. Nothing in Lean hashes anything: it is a label: what it is worth is what the hold of that sum in a sandbox is worth. -/
noncomputable def Try.pinned : Pinned := { name := "ytohdnnamjcfnnaa", sum := "7f78be82dc9bfed48a5120e84d8d78c753cf40d4a343c71a4d4c67536bdf3f3d", checked := Try.checked }
namespace Rows
def none {H : Type} : Left H := { results := [], args := [] }

/-- 'laws.FnExactRemoveFrom': WHATEVER THE INPUT: true; the input reads as it did. -/
def fnExactRemoveFromSpec : ChangeSpec := { name := "fnExactRemoveFrom", fn := fun _ => fun
  | [d1, d2] => { results := [.lit (.bool true)], args := [d1, d2] }
  | _ => none }
def fnExactRemoveFromRow : OpenClaim := { program := "ytohdnnamjcfnnaa", sum := "7f78be82dc9bfed48a5120e84d8d78c753cf40d4a343c71a4d4c67536bdf3f3d", func := "loop.example/g03402/laws.FnExactRemoveFrom", spec := "fnExactRemoveFrom", apart := false }
def FnExactRemoveFromSaid : Prop := fnExactRemoveFromRow.holds Try.pinned (OpenSpec.ofChange fnExactRemoveFromSpec)

/-- ITS FALSE NEIGHBOUR: 'it returns false'. Refute it at one input. -/
def fnExactRemoveFromWrong : ChangeSpec := { name := "fnExactRemoveFrom", fn := fun _ => fun
  | [d1, d2] => { results := [.lit (.bool false)], args := [d1, d2] }
  | _ => none }
def FnExactRemoveFromWrongFalsely : Prop := fnExactRemoveFromRow.holds Try.pinned (OpenSpec.ofChange fnExactRemoveFromWrong)

/-- 'laws.FnExactClaimOfSum': WHATEVER THE INPUT: true; the input reads as it did. -/
def fnExactClaimOfSumSpec : ChangeSpec := { name := "fnExactClaimOfSum", fn := fun _ => fun
  | [d1, d2, d3] => { results := [.lit (.bool true)], args := [d1, d2, d3] }
  | _ => none }
def fnExactClaimOfSumRow : OpenClaim := { program := "ytohdnnamjcfnnaa", sum := "7f78be82dc9bfed48a5120e84d8d78c753cf40d4a343c71a4d4c67536bdf3f3d", func := "loop.example/g03402/laws.FnExactClaimOfSum", spec := "fnExactClaimOfSum", apart := false }
def FnExactClaimOfSumSaid : Prop := fnExactClaimOfSumRow.holds Try.pinned (OpenSpec.ofChange fnExactClaimOfSumSpec)

/-- ITS FALSE NEIGHBOUR: 'it returns false'. Refute it at one input. -/
def fnExactClaimOfSumWrong : ChangeSpec := { name := "fnExactClaimOfSum", fn := fun _ => fun
  | [d1, d2, d3] => { results := [.lit (.bool false)], args := [d1, d2, d3] }
  | _ => none }
def FnExactClaimOfSumWrongFalsely : Prop := fnExactClaimOfSumRow.holds Try.pinned (OpenSpec.ofChange fnExactClaimOfSumWrong)

/-- 'laws.FnExactClaimOfSequence': WHATEVER THE INPUT: true; the input reads as it did. -/
def fnExactClaimOfSequenceSpec : ChangeSpec := { name := "fnExactClaimOfSequence", fn := fun _ => fun
  | [d1, d2] => { results := [.lit (.bool true)], args := [d1, d2] }
  | _ => none }
def fnExactClaimOfSequenceRow : OpenClaim := { program := "ytohdnnamjcfnnaa", sum := "7f78be82dc9bfed48a5120e84d8d78c753cf40d4a343c71a4d4c67536bdf3f3d", func := "loop.example/g03402/laws.FnExactClaimOfSequence", spec := "fnExactClaimOfSequence", apart := false }
def FnExactClaimOfSequenceSaid : Prop := fnExactClaimOfSequenceRow.holds Try.pinned (OpenSpec.ofChange fnExactClaimOfSequenceSpec)

/-- ITS FALSE NEIGHBOUR: 'it returns false'. Refute it at one input. -/
def fnExactClaimOfSequenceWrong : ChangeSpec := { name := "fnExactClaimOfSequence", fn := fun _ => fun
  | [d1, d2] => { results := [.lit (.bool false)], args := [d1, d2] }
  | _ => none }
def FnExactClaimOfSequenceWrongFalsely : Prop := fnExactClaimOfSequenceRow.holds Try.pinned (OpenSpec.ofChange fnExactClaimOfSequenceWrong)

/-- 'laws.FnExactEquationLine': WHATEVER THE INPUT: true; the input reads as it did. -/
def fnExactEquationLineSpec : ChangeSpec := { name := "fnExactEquationLine", fn := fun _ => fun
  | [d] => { results := [.lit (.bool true)], args := [d] }
  | _ => none }
def fnExactEquationLineRow : OpenClaim := { program := "ytohdnnamjcfnnaa", sum := "7f78be82dc9bfed48a5120e84d8d78c753cf40d4a343c71a4d4c67536bdf3f3d", func := "loop.example/g03402/laws.FnExactEquationLine", spec := "fnExactEquationLine", unfollowed := true, recurses := true, apart := false }
def FnExactEquationLineSaid : Prop := fnExactEquationLineRow.holds Try.pinned (OpenSpec.ofChange fnExactEquationLineSpec)

/-- ITS FALSE NEIGHBOUR: 'it returns false'. Refute it at one input. -/
def fnExactEquationLineWrong : ChangeSpec := { name := "fnExactEquationLine", fn := fun _ => fun
  | [d] => { results := [.lit (.bool false)], args := [d] }
  | _ => none }
def FnExactEquationLineWrongFalsely : Prop := fnExactEquationLineRow.holds Try.pinned (OpenSpec.ofChange fnExactEquationLineWrong)

/-- 'laws.FnExactKempermanCase': WHATEVER THE INPUT: true; the input reads as it did. -/
def fnExactKempermanCaseSpec : ChangeSpec := { name := "fnExactKempermanCase", fn := fun _ => fun
  | [d1, d2, d3] => { results := [.lit (.bool true)], args := [d1, d2, d3] }
  | _ => none }
def fnExactKempermanCaseRow : OpenClaim := { program := "ytohdnnamjcfnnaa", sum := "7f78be82dc9bfed48a5120e84d8d78c753cf40d4a343c71a4d4c67536bdf3f3d", func := "loop.example/g03402/laws.FnExactKempermanCase", spec := "fnExactKempermanCase", apart := false }
def FnExactKempermanCaseSaid : Prop := fnExactKempermanCaseRow.holds Try.pinned (OpenSpec.ofChange fnExactKempermanCaseSpec)

/-- ITS FALSE NEIGHBOUR: 'it returns false'. Refute it at one input. -/
def fnExactKempermanCaseWrong : ChangeSpec := { name := "fnExactKempermanCase", fn := fun _ => fun
  | [d1, d2, d3] => { results := [.lit (.bool false)], args := [d1, d2, d3] }
  | _ => none }
def FnExactKempermanCaseWrongFalsely : Prop := fnExactKempermanCaseRow.holds Try.pinned (OpenSpec.ofChange fnExactKempermanCaseWrong)

/-- 'laws.FnExactClaimOfTile': WHATEVER THE INPUT: true; the input reads as it did. -/
def fnExactClaimOfTileSpec : ChangeSpec := { name := "fnExactClaimOfTile", fn := fun _ => fun
  | [d1, d2] => { results := [.lit (.bool true)], args := [d1, d2] }
  | _ => none }
def fnExactClaimOfTileRow : OpenClaim := { program := "ytohdnnamjcfnnaa", sum := "7f78be82dc9bfed48a5120e84d8d78c753cf40d4a343c71a4d4c67536bdf3f3d", func := "loop.example/g03402/laws.FnExactClaimOfTile", spec := "fnExactClaimOfTile", unfollowed := true, recurses := true, apart := false }
def FnExactClaimOfTileSaid : Prop := fnExactClaimOfTileRow.holds Try.pinned (OpenSpec.ofChange fnExactClaimOfTileSpec)

/-- ITS FALSE NEIGHBOUR: 'it returns false'. Refute it at one input. -/
def fnExactClaimOfTileWrong : ChangeSpec := { name := "fnExactClaimOfTile", fn := fun _ => fun
  | [d1, d2] => { results := [.lit (.bool false)], args := [d1, d2] }
  | _ => none }
def FnExactClaimOfTileWrongFalsely : Prop := fnExactClaimOfTileRow.holds Try.pinned (OpenSpec.ofChange fnExactClaimOfTileWrong)

/-- 'laws.FnExactClaimOfCoset': WHATEVER THE INPUT: true; the input reads as it did. -/
def fnExactClaimOfCosetSpec : ChangeSpec := { name := "fnExactClaimOfCoset", fn := fun _ => fun
  | [d1, d2] => { results := [.lit (.bool true)], args := [d1, d2] }
  | _ => none }
def fnExactClaimOfCosetRow : OpenClaim := { program := "ytohdnnamjcfnnaa", sum := "7f78be82dc9bfed48a5120e84d8d78c753cf40d4a343c71a4d4c67536bdf3f3d", func := "loop.example/g03402/laws.FnExactClaimOfCoset", spec := "fnExactClaimOfCoset", apart := false }
def FnExactClaimOfCosetSaid : Prop := fnExactClaimOfCosetRow.holds Try.pinned (OpenSpec.ofChange fnExactClaimOfCosetSpec)

/-- ITS FALSE NEIGHBOUR: 'it returns false'. Refute it at one input. -/
def fnExactClaimOfCosetWrong : ChangeSpec := { name := "fnExactClaimOfCoset", fn := fun _ => fun
  | [d1, d2] => { results := [.lit (.bool false)], args := [d1, d2] }
  | _ => none }
def FnExactClaimOfCosetWrongFalsely : Prop := fnExactClaimOfCosetRow.holds Try.pinned (OpenSpec.ofChange fnExactClaimOfCosetWrong)

/-- 'laws.FnExactClaimOfAlike': WHATEVER THE INPUT: true; the input reads as it did. -/
def fnExactClaimOfAlikeSpec : ChangeSpec := { name := "fnExactClaimOfAlike", fn := fun _ => fun
  | [d1, d2, d3, d4] => { results := [.lit (.bool true)], args := [d1, d2, d3, d4] }
  | _ => none }
def fnExactClaimOfAlikeRow : OpenClaim := { program := "ytohdnnamjcfnnaa", sum := "7f78be82dc9bfed48a5120e84d8d78c753cf40d4a343c71a4d4c67536bdf3f3d", func := "loop.example/g03402/laws.FnExactClaimOfAlike", spec := "fnExactClaimOfAlike", unfollowed := true, recurses := true, apart := false }
def FnExactClaimOfAlikeSaid : Prop := fnExactClaimOfAlikeRow.holds Try.pinned (OpenSpec.ofChange fnExactClaimOfAlikeSpec)

/-- ITS FALSE NEIGHBOUR: 'it returns false'. Refute it at one input. -/
def fnExactClaimOfAlikeWrong : ChangeSpec := { name := "fnExactClaimOfAlike", fn := fun _ => fun
  | [d1, d2, d3, d4] => { results := [.lit (.bool false)], args := [d1, d2, d3, d4] }
  | _ => none }
def FnExactClaimOfAlikeWrongFalsely : Prop := fnExactClaimOfAlikeRow.holds Try.pinned (OpenSpec.ofChange fnExactClaimOfAlikeWrong)

/-- 'laws.FnExactFormatClaim': WHATEVER THE INPUT: true; the input reads as it did. -/
def fnExactFormatClaimSpec : ChangeSpec := { name := "fnExactFormatClaim", fn := fun _ => fun
  | [d] => { results := [.lit (.bool true)], args := [d] }
  | _ => none }
def fnExactFormatClaimRow : OpenClaim := { program := "ytohdnnamjcfnnaa", sum := "7f78be82dc9bfed48a5120e84d8d78c753cf40d4a343c71a4d4c67536bdf3f3d", func := "loop.example/g03402/laws.FnExactFormatClaim", spec := "fnExactFormatClaim", apart := false }
def FnExactFormatClaimSaid : Prop := fnExactFormatClaimRow.holds Try.pinned (OpenSpec.ofChange fnExactFormatClaimSpec)

/-- ITS FALSE NEIGHBOUR: 'it returns false'. Refute it at one input. -/
def fnExactFormatClaimWrong : ChangeSpec := { name := "fnExactFormatClaim", fn := fun _ => fun
  | [d] => { results := [.lit (.bool false)], args := [d] }
  | _ => none }
def FnExactFormatClaimWrongFalsely : Prop := fnExactFormatClaimRow.holds Try.pinned (OpenSpec.ofChange fnExactFormatClaimWrong)

/-- 'laws.FnEdits': WHATEVER THE INPUT: true; the input reads as it did. -/
def fnEditsSpec : ChangeSpec := { name := "fnEdits", fn := fun _ => fun
  | [d] => { results := [.lit (.bool true)], args := [d] }
  | _ => none }
def fnEditsRow : OpenClaim := { program := "ytohdnnamjcfnnaa", sum := "7f78be82dc9bfed48a5120e84d8d78c753cf40d4a343c71a4d4c67536bdf3f3d", func := "loop.example/g03402/laws.FnEdits", spec := "fnEdits", apart := false }
def FnEditsSaid : Prop := fnEditsRow.holds Try.pinned (OpenSpec.ofChange fnEditsSpec)

/-- ITS FALSE NEIGHBOUR: 'it returns false'. Refute it at one input. -/
def fnEditsWrong : ChangeSpec := { name := "fnEdits", fn := fun _ => fun
  | [d] => { results := [.lit (.bool false)], args := [d] }
  | _ => none }
def FnEditsWrongFalsely : Prop := fnEditsRow.holds Try.pinned (OpenSpec.ofChange fnEditsWrong)

/-- 'laws.FnExactStructureOf': WHATEVER THE INPUT: true; the input reads as it did. -/
def fnExactStructureOfSpec : ChangeSpec := { name := "fnExactStructureOf", fn := fun _ => fun
  | [d1, d2] => { results := [.lit (.bool true)], args := [d1, d2] }
  | _ => none }
def fnExactStructureOfRow : OpenClaim := { program := "ytohdnnamjcfnnaa", sum := "7f78be82dc9bfed48a5120e84d8d78c753cf40d4a343c71a4d4c67536bdf3f3d", func := "loop.example/g03402/laws.FnExactStructureOf", spec := "fnExactStructureOf", apart := false }
def FnExactStructureOfSaid : Prop := fnExactStructureOfRow.holds Try.pinned (OpenSpec.ofChange fnExactStructureOfSpec)

/-- ITS FALSE NEIGHBOUR: 'it returns false'. Refute it at one input. -/
def fnExactStructureOfWrong : ChangeSpec := { name := "fnExactStructureOf", fn := fun _ => fun
  | [d1, d2] => { results := [.lit (.bool false)], args := [d1, d2] }
  | _ => none }
def FnExactStructureOfWrongFalsely : Prop := fnExactStructureOfRow.holds Try.pinned (OpenSpec.ofChange fnExactStructureOfWrong)

/-- 'laws.FnTranslates': WHATEVER THE INPUT: true; the input reads as it did. -/
def fnTranslatesSpec : ChangeSpec := { name := "fnTranslates", fn := fun _ => fun
  | [d] => { results := [.lit (.bool true)], args := [d] }
  | _ => none }
def fnTranslatesRow : OpenClaim := { program := "ytohdnnamjcfnnaa", sum := "7f78be82dc9bfed48a5120e84d8d78c753cf40d4a343c71a4d4c67536bdf3f3d", func := "loop.example/g03402/laws.FnTranslates", spec := "fnTranslates", unfollowed := true, recurses := true, apart := false }
def FnTranslatesSaid : Prop := fnTranslatesRow.holds Try.pinned (OpenSpec.ofChange fnTranslatesSpec)

/-- ITS FALSE NEIGHBOUR: 'it returns false'. Refute it at one input. -/
def fnTranslatesWrong : ChangeSpec := { name := "fnTranslates", fn := fun _ => fun
  | [d] => { results := [.lit (.bool false)], args := [d] }
  | _ => none }
def FnTranslatesWrongFalsely : Prop := fnTranslatesRow.holds Try.pinned (OpenSpec.ofChange fnTranslatesWrong)

/- THE SECOND FORM. 'bulk': how many values and letters a reading holds, each counted each time it is reached (what is shared counts as often as it is met; a slice's spare places count too). A statement '..UptoSaid' is the law's where the arguments, and the package variables that the reading takes, are together of bulk at most 1048576: NARROWER than '..Said'. Prove '..Said' where nothing that the law and all that it calls make is longer than what came in: it says more and counts as full. Else prove '..UptoSaid'. A law counts once. -/
mutual
def uptoBulk {H : Type} : DataW H → Nat
  | .lit (.string bytes) => bytes.length + 1
  | .lit _ => 1
  | .nil => 1
  | .ptr d => uptoBulk d + 1
  | .slice elems spare => uptoBulkAll elems + uptoBulkAll spare + 1
  | .agg parts => uptoBulkAll parts + 1
  | .iface _ d => uptoBulk d + 1
  | .map entries => uptoBulkEntries entries + 1
  | .held _ => 1
def uptoBulkAll {H : Type} : List (DataW H) → Nat
  | [] => 0
  | d :: r => uptoBulk d + uptoBulkAll r
def uptoBulkEntries {H : Type} : List (Lit × DataW H) → Nat
  | [] => 0
  | x :: r => uptoBulkEntry x + uptoBulkEntries r
def uptoBulkEntry {H : Type} : Lit × DataW H → Nat
  | (.string bytes, d) => bytes.length + uptoBulk d + 1
  | (_, d) => uptoBulk d + 1
 end
def uptoSmall : (H : Type) → List (DataW H) → Bool := fun _ ds => decide (uptoBulkAll ds ≤ 1048576)
def OpenSpec.upto (s : _root_.Go.ChangeSpec) : _root_.Go.OpenSpec := { _root_.Go.OpenSpec.ofChange s with cond := some uptoSmall }

/-- 'laws.FnExactRemoveFrom', WHERE WHAT IT READS IS OF BULK AT MOST 1048576: true; the input reads as it did. -/
def fnExactRemoveFromUptoRow : OpenClaim := { program := "ytohdnnamjcfnnaa", sum := "7f78be82dc9bfed48a5120e84d8d78c753cf40d4a343c71a4d4c67536bdf3f3d", func := "loop.example/g03402/laws.FnExactRemoveFrom", spec := "fnExactRemoveFrom", apart := false, narrowed := true }
def FnExactRemoveFromUptoSaid : Prop := fnExactRemoveFromUptoRow.holds Try.pinned (OpenSpec.upto fnExactRemoveFromSpec)

/-- 'laws.FnExactClaimOfSum', WHERE WHAT IT READS IS OF BULK AT MOST 1048576: true; the input reads as it did. -/
def fnExactClaimOfSumUptoRow : OpenClaim := { program := "ytohdnnamjcfnnaa", sum := "7f78be82dc9bfed48a5120e84d8d78c753cf40d4a343c71a4d4c67536bdf3f3d", func := "loop.example/g03402/laws.FnExactClaimOfSum", spec := "fnExactClaimOfSum", apart := false, narrowed := true }
def FnExactClaimOfSumUptoSaid : Prop := fnExactClaimOfSumUptoRow.holds Try.pinned (OpenSpec.upto fnExactClaimOfSumSpec)

/-- 'laws.FnExactClaimOfSequence', WHERE WHAT IT READS IS OF BULK AT MOST 1048576: true; the input reads as it did. -/
def fnExactClaimOfSequenceUptoRow : OpenClaim := { program := "ytohdnnamjcfnnaa", sum := "7f78be82dc9bfed48a5120e84d8d78c753cf40d4a343c71a4d4c67536bdf3f3d", func := "loop.example/g03402/laws.FnExactClaimOfSequence", spec := "fnExactClaimOfSequence", apart := false, narrowed := true }
def FnExactClaimOfSequenceUptoSaid : Prop := fnExactClaimOfSequenceUptoRow.holds Try.pinned (OpenSpec.upto fnExactClaimOfSequenceSpec)

/-- 'laws.FnExactEquationLine', WHERE WHAT IT READS IS OF BULK AT MOST 1048576: true; the input reads as it did. -/
def fnExactEquationLineUptoRow : OpenClaim := { program := "ytohdnnamjcfnnaa", sum := "7f78be82dc9bfed48a5120e84d8d78c753cf40d4a343c71a4d4c67536bdf3f3d", func := "loop.example/g03402/laws.FnExactEquationLine", spec := "fnExactEquationLine", unfollowed := true, recurses := true, apart := false, narrowed := true }
def FnExactEquationLineUptoSaid : Prop := fnExactEquationLineUptoRow.holds Try.pinned (OpenSpec.upto fnExactEquationLineSpec)

/-- 'laws.FnExactKempermanCase', WHERE WHAT IT READS IS OF BULK AT MOST 1048576: true; the input reads as it did. -/
def fnExactKempermanCaseUptoRow : OpenClaim := { program := "ytohdnnamjcfnnaa", sum := "7f78be82dc9bfed48a5120e84d8d78c753cf40d4a343c71a4d4c67536bdf3f3d", func := "loop.example/g03402/laws.FnExactKempermanCase", spec := "fnExactKempermanCase", apart := false, narrowed := true }
def FnExactKempermanCaseUptoSaid : Prop := fnExactKempermanCaseUptoRow.holds Try.pinned (OpenSpec.upto fnExactKempermanCaseSpec)

/-- 'laws.FnExactClaimOfTile', WHERE WHAT IT READS IS OF BULK AT MOST 1048576: true; the input reads as it did. -/
def fnExactClaimOfTileUptoRow : OpenClaim := { program := "ytohdnnamjcfnnaa", sum := "7f78be82dc9bfed48a5120e84d8d78c753cf40d4a343c71a4d4c67536bdf3f3d", func := "loop.example/g03402/laws.FnExactClaimOfTile", spec := "fnExactClaimOfTile", unfollowed := true, recurses := true, apart := false, narrowed := true }
def FnExactClaimOfTileUptoSaid : Prop := fnExactClaimOfTileUptoRow.holds Try.pinned (OpenSpec.upto fnExactClaimOfTileSpec)

/-- 'laws.FnExactClaimOfCoset', WHERE WHAT IT READS IS OF BULK AT MOST 1048576: true; the input reads as it did. -/
def fnExactClaimOfCosetUptoRow : OpenClaim := { program := "ytohdnnamjcfnnaa", sum := "7f78be82dc9bfed48a5120e84d8d78c753cf40d4a343c71a4d4c67536bdf3f3d", func := "loop.example/g03402/laws.FnExactClaimOfCoset", spec := "fnExactClaimOfCoset", apart := false, narrowed := true }
def FnExactClaimOfCosetUptoSaid : Prop := fnExactClaimOfCosetUptoRow.holds Try.pinned (OpenSpec.upto fnExactClaimOfCosetSpec)

/-- 'laws.FnExactClaimOfAlike', WHERE WHAT IT READS IS OF BULK AT MOST 1048576: true; the input reads as it did. -/
def fnExactClaimOfAlikeUptoRow : OpenClaim := { program := "ytohdnnamjcfnnaa", sum := "7f78be82dc9bfed48a5120e84d8d78c753cf40d4a343c71a4d4c67536bdf3f3d", func := "loop.example/g03402/laws.FnExactClaimOfAlike", spec := "fnExactClaimOfAlike", unfollowed := true, recurses := true, apart := false, narrowed := true }
def FnExactClaimOfAlikeUptoSaid : Prop := fnExactClaimOfAlikeUptoRow.holds Try.pinned (OpenSpec.upto fnExactClaimOfAlikeSpec)

/-- 'laws.FnExactFormatClaim', WHERE WHAT IT READS IS OF BULK AT MOST 1048576: true; the input reads as it did. -/
def fnExactFormatClaimUptoRow : OpenClaim := { program := "ytohdnnamjcfnnaa", sum := "7f78be82dc9bfed48a5120e84d8d78c753cf40d4a343c71a4d4c67536bdf3f3d", func := "loop.example/g03402/laws.FnExactFormatClaim", spec := "fnExactFormatClaim", apart := false, narrowed := true }
def FnExactFormatClaimUptoSaid : Prop := fnExactFormatClaimUptoRow.holds Try.pinned (OpenSpec.upto fnExactFormatClaimSpec)

/-- 'laws.FnEdits', WHERE WHAT IT READS IS OF BULK AT MOST 1048576: true; the input reads as it did. -/
def fnEditsUptoRow : OpenClaim := { program := "ytohdnnamjcfnnaa", sum := "7f78be82dc9bfed48a5120e84d8d78c753cf40d4a343c71a4d4c67536bdf3f3d", func := "loop.example/g03402/laws.FnEdits", spec := "fnEdits", apart := false, narrowed := true }
def FnEditsUptoSaid : Prop := fnEditsUptoRow.holds Try.pinned (OpenSpec.upto fnEditsSpec)

/-- 'laws.FnExactStructureOf', WHERE WHAT IT READS IS OF BULK AT MOST 1048576: true; the input reads as it did. -/
def fnExactStructureOfUptoRow : OpenClaim := { program := "ytohdnnamjcfnnaa", sum := "7f78be82dc9bfed48a5120e84d8d78c753cf40d4a343c71a4d4c67536bdf3f3d", func := "loop.example/g03402/laws.FnExactStructureOf", spec := "fnExactStructureOf", apart := false, narrowed := true }
def FnExactStructureOfUptoSaid : Prop := fnExactStructureOfUptoRow.holds Try.pinned (OpenSpec.upto fnExactStructureOfSpec)

/-- 'laws.FnTranslates', WHERE WHAT IT READS IS OF BULK AT MOST 1048576: true; the input reads as it did. -/
def fnTranslatesUptoRow : OpenClaim := { program := "ytohdnnamjcfnnaa", sum := "7f78be82dc9bfed48a5120e84d8d78c753cf40d4a343c71a4d4c67536bdf3f3d", func := "loop.example/g03402/laws.FnTranslates", spec := "fnTranslates", unfollowed := true, recurses := true, apart := false, narrowed := true }
def FnTranslatesUptoSaid : Prop := fnTranslatesUptoRow.holds Try.pinned (OpenSpec.upto fnTranslatesSpec)

end Rows
end Go.Proofs.Ytohdnnamjcfnnaa
