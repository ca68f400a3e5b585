/-
  No cell of these rows narrows 'for every input' (looked for: loops, veiled, ifaces, maps, wideKeys, modest, calm, conditions, laid).
  DERIVED. THE GIVEN ROWS OF THIS SEAT. 6 by the template 'for every input the law returns true; each argument reads behind the call as it read before'; 0 by the template 'total and deterministic' (their statements: YtlegcppncdiijaaTotals.lean).
  GIVEN WITH THE SEED: the statements are not yours to turn. If you find one false, say at which input.
  Laid BY PROGRAM, IN A SANDBOX (cutbox-rows.mjs): the forced cells as the released guide's own fill.sh prints them over the translation f560741ce626e1f4… (all of the seat's roots in one cut). By AI agents, Wed Nov 11 2026. No macro, syntax, notation, axiom, sorry.
-/
import Derived.Test.YtlegcppncdiijaaChecked
import GoSem.Claim
import GoSem.ClaimJoined
import GoSem.ClaimMapViews
import Derived.JoinedTies
import Derived.KernelRfl
namespace Go.Proofs.Ytlegcppncdiijaa
/- THE CELL 'sum', in the pinned program and in every row, IS THE sha256 OF THE DUMP (.gsa) THAT YtlegcppncdiijaaProg.lean LOADS. Nothing in Lean hashes anything: it is a label: what it is worth is what the hold of that sum in a sandbox is worth. -/
noncomputable def Try.pinned : Pinned := { name := "ytlegcppncdiijaa", sum := "f560741ce626e1f412e3c3c4eee3b1c5c9f79e720fec3964163206c735b6bc3d", checked := Try.checked }
namespace Rows
def none {H : Type} : Left H := { results := [], args := [] }

/-- 'laws.FnExactPairLine': WHATEVER THE INPUT: true; the input reads as it did. -/
def fnExactPairLineSpec : ChangeSpec := { name := "fnExactPairLine", fn := fun _ => fun
  | [d1, d2, d3] => { results := [.lit (.bool true)], args := [d1, d2, d3] }
  | _ => none }
def fnExactPairLineRow : OpenClaim := { program := "ytlegcppncdiijaa", sum := "f560741ce626e1f412e3c3c4eee3b1c5c9f79e720fec3964163206c735b6bc3d", func := "loop.example/g03402/laws.FnExactPairLine", spec := "fnExactPairLine", apart := false }
def FnExactPairLineSaid : Prop := fnExactPairLineRow.holds Try.pinned (OpenSpec.ofChange fnExactPairLineSpec)

/-- ITS FALSE NEIGHBOUR: 'it returns false'. Refute it at one input. -/
def fnExactPairLineWrong : ChangeSpec := { name := "fnExactPairLine", fn := fun _ => fun
  | [d1, d2, d3] => { results := [.lit (.bool false)], args := [d1, d2, d3] }
  | _ => none }
def FnExactPairLineWrongFalsely : Prop := fnExactPairLineRow.holds Try.pinned (OpenSpec.ofChange fnExactPairLineWrong)

/-- 'laws.FnExactCheckClaim': WHATEVER THE INPUT: true; the input reads as it did. -/
def fnExactCheckClaimSpec : ChangeSpec := { name := "fnExactCheckClaim", fn := fun _ => fun
  | [d] => { results := [.lit (.bool true)], args := [d] }
  | _ => none }
def fnExactCheckClaimRow : OpenClaim := { program := "ytlegcppncdiijaa", sum := "f560741ce626e1f412e3c3c4eee3b1c5c9f79e720fec3964163206c735b6bc3d", func := "loop.example/g03402/laws.FnExactCheckClaim", spec := "fnExactCheckClaim", apart := false }
def FnExactCheckClaimSaid : Prop := fnExactCheckClaimRow.holds Try.pinned (OpenSpec.ofChange fnExactCheckClaimSpec)

/-- ITS FALSE NEIGHBOUR: 'it returns false'. Refute it at one input. -/
def fnExactCheckClaimWrong : ChangeSpec := { name := "fnExactCheckClaim", fn := fun _ => fun
  | [d] => { results := [.lit (.bool false)], args := [d] }
  | _ => none }
def FnExactCheckClaimWrongFalsely : Prop := fnExactCheckClaimRow.holds Try.pinned (OpenSpec.ofChange fnExactCheckClaimWrong)

/-- 'laws.FnExactExtremalLine': WHATEVER THE INPUT: true; the input reads as it did. -/
def fnExactExtremalLineSpec : ChangeSpec := { name := "fnExactExtremalLine", fn := fun _ => fun
  | [d] => { results := [.lit (.bool true)], args := [d] }
  | _ => none }
def fnExactExtremalLineRow : OpenClaim := { program := "ytlegcppncdiijaa", sum := "f560741ce626e1f412e3c3c4eee3b1c5c9f79e720fec3964163206c735b6bc3d", func := "loop.example/g03402/laws.FnExactExtremalLine", spec := "fnExactExtremalLine", unfollowed := true, recurses := true, apart := false }
def FnExactExtremalLineSaid : Prop := fnExactExtremalLineRow.holds Try.pinned (OpenSpec.ofChange fnExactExtremalLineSpec)

/-- ITS FALSE NEIGHBOUR: 'it returns false'. Refute it at one input. -/
def fnExactExtremalLineWrong : ChangeSpec := { name := "fnExactExtremalLine", fn := fun _ => fun
  | [d] => { results := [.lit (.bool false)], args := [d] }
  | _ => none }
def FnExactExtremalLineWrongFalsely : Prop := fnExactExtremalLineRow.holds Try.pinned (OpenSpec.ofChange fnExactExtremalLineWrong)

/-- 'laws.FnEdits': WHATEVER THE INPUT: true; the input reads as it did. -/
def fnEditsSpec : ChangeSpec := { name := "fnEdits", fn := fun _ => fun
  | [d] => { results := [.lit (.bool true)], args := [d] }
  | _ => none }
def fnEditsRow : OpenClaim := { program := "ytlegcppncdiijaa", sum := "f560741ce626e1f412e3c3c4eee3b1c5c9f79e720fec3964163206c735b6bc3d", func := "loop.example/g03402/laws.FnEdits", spec := "fnEdits", apart := false }
def FnEditsSaid : Prop := fnEditsRow.holds Try.pinned (OpenSpec.ofChange fnEditsSpec)

/-- ITS FALSE NEIGHBOUR: 'it returns false'. Refute it at one input. -/
def fnEditsWrong : ChangeSpec := { name := "fnEdits", fn := fun _ => fun
  | [d] => { results := [.lit (.bool false)], args := [d] }
  | _ => none }
def FnEditsWrongFalsely : Prop := fnEditsRow.holds Try.pinned (OpenSpec.ofChange fnEditsWrong)

/-- 'laws.FnTranslates': WHATEVER THE INPUT: true; the input reads as it did. -/
def fnTranslatesSpec : ChangeSpec := { name := "fnTranslates", fn := fun _ => fun
  | [d] => { results := [.lit (.bool true)], args := [d] }
  | _ => none }
def fnTranslatesRow : OpenClaim := { program := "ytlegcppncdiijaa", sum := "f560741ce626e1f412e3c3c4eee3b1c5c9f79e720fec3964163206c735b6bc3d", func := "loop.example/g03402/laws.FnTranslates", spec := "fnTranslates", unfollowed := true, recurses := true, apart := false }
def FnTranslatesSaid : Prop := fnTranslatesRow.holds Try.pinned (OpenSpec.ofChange fnTranslatesSpec)

/-- ITS FALSE NEIGHBOUR: 'it returns false'. Refute it at one input. -/
def fnTranslatesWrong : ChangeSpec := { name := "fnTranslates", fn := fun _ => fun
  | [d] => { results := [.lit (.bool false)], args := [d] }
  | _ => none }
def FnTranslatesWrongFalsely : Prop := fnTranslatesRow.holds Try.pinned (OpenSpec.ofChange fnTranslatesWrong)

/-- 'laws.FnCayley': WHATEVER THE INPUT: true; the input reads as it did. -/
def fnCayleySpec : ChangeSpec := { name := "fnCayley", fn := fun _ => fun
  | [d] => { results := [.lit (.bool true)], args := [d] }
  | _ => none }
def fnCayleyRow : OpenClaim := { program := "ytlegcppncdiijaa", sum := "f560741ce626e1f412e3c3c4eee3b1c5c9f79e720fec3964163206c735b6bc3d", func := "loop.example/g03402/laws.FnCayley", spec := "fnCayley", unfollowed := true, recurses := true, apart := false }
def FnCayleySaid : Prop := fnCayleyRow.holds Try.pinned (OpenSpec.ofChange fnCayleySpec)

/-- ITS FALSE NEIGHBOUR: 'it returns false'. Refute it at one input. -/
def fnCayleyWrong : ChangeSpec := { name := "fnCayley", fn := fun _ => fun
  | [d] => { results := [.lit (.bool false)], args := [d] }
  | _ => none }
def FnCayleyWrongFalsely : Prop := fnCayleyRow.holds Try.pinned (OpenSpec.ofChange fnCayleyWrong)

/- THE SECOND FORM. 'bulk': how many values and letters a reading holds, each counted each time it is reached (what is shared counts as often as it is met; a slice's spare places count too). A statement '..UptoSaid' is the law's where the arguments, and the package variables that the reading takes, are together of bulk at most 1048576: NARROWER than '..Said'. Prove '..Said' where nothing that the law and all that it calls make is longer than what came in: it says more and counts as full. Else prove '..UptoSaid'. A law counts once. -/
mutual
def uptoBulk {H : Type} : DataW H → Nat
  | .lit (.string bytes) => bytes.length + 1
  | .lit _ => 1
  | .nil => 1
  | .ptr d => uptoBulk d + 1
  | .slice elems spare => uptoBulkAll elems + uptoBulkAll spare + 1
  | .agg parts => uptoBulkAll parts + 1
  | .iface _ d => uptoBulk d + 1
  | .map entries => uptoBulkEntries entries + 1
  | .held _ => 1
def uptoBulkAll {H : Type} : List (DataW H) → Nat
  | [] => 0
  | d :: r => uptoBulk d + uptoBulkAll r
def uptoBulkEntries {H : Type} : List (Lit × DataW H) → Nat
  | [] => 0
  | x :: r => uptoBulkEntry x + uptoBulkEntries r
def uptoBulkEntry {H : Type} : Lit × DataW H → Nat
  | (.string bytes, d) => bytes.length + uptoBulk d + 1
  | (_, d) => uptoBulk d + 1
 end
def uptoSmall : (H : Type) → List (DataW H) → Bool := fun _ ds => decide (uptoBulkAll ds ≤ 1048576)
def OpenSpec.upto (s : _root_.Go.ChangeSpec) : _root_.Go.OpenSpec := { _root_.Go.OpenSpec.ofChange s with cond := some uptoSmall }

/-- 'laws.FnExactPairLine', WHERE WHAT IT READS IS OF BULK AT MOST 1048576: true; the input reads as it did. -/
def fnExactPairLineUptoRow : OpenClaim := { program := "ytlegcppncdiijaa", sum := "f560741ce626e1f412e3c3c4eee3b1c5c9f79e720fec3964163206c735b6bc3d", func := "loop.example/g03402/laws.FnExactPairLine", spec := "fnExactPairLine", apart := false, narrowed := true }
def FnExactPairLineUptoSaid : Prop := fnExactPairLineUptoRow.holds Try.pinned (OpenSpec.upto fnExactPairLineSpec)

/-- 'laws.FnExactCheckClaim', WHERE WHAT IT READS IS OF BULK AT MOST 1048576: true; the input reads as it did. -/
def fnExactCheckClaimUptoRow : OpenClaim := { program := "ytlegcppncdiijaa", sum := "f560741ce626e1f412e3c3c4eee3b1c5c9f79e720fec3964163206c735b6bc3d", func := "loop.example/g03402/laws.FnExactCheckClaim", spec := "fnExactCheckClaim", apart := false, narrowed := true }
def FnExactCheckClaimUptoSaid : Prop := fnExactCheckClaimUptoRow.holds Try.pinned (OpenSpec.upto fnExactCheckClaimSpec)

/-- 'laws.FnExactExtremalLine', WHERE WHAT IT READS IS OF BULK AT MOST 1048576: true; the input reads as it did. -/
def fnExactExtremalLineUptoRow : OpenClaim := { program := "ytlegcppncdiijaa", sum := "f560741ce626e1f412e3c3c4eee3b1c5c9f79e720fec3964163206c735b6bc3d", func := "loop.example/g03402/laws.FnExactExtremalLine", spec := "fnExactExtremalLine", unfollowed := true, recurses := true, apart := false, narrowed := true }
def FnExactExtremalLineUptoSaid : Prop := fnExactExtremalLineUptoRow.holds Try.pinned (OpenSpec.upto fnExactExtremalLineSpec)

/-- 'laws.FnEdits', WHERE WHAT IT READS IS OF BULK AT MOST 1048576: true; the input reads as it did. -/
def fnEditsUptoRow : OpenClaim := { program := "ytlegcppncdiijaa", sum := "f560741ce626e1f412e3c3c4eee3b1c5c9f79e720fec3964163206c735b6bc3d", func := "loop.example/g03402/laws.FnEdits", spec := "fnEdits", apart := false, narrowed := true }
def FnEditsUptoSaid : Prop := fnEditsUptoRow.holds Try.pinned (OpenSpec.upto fnEditsSpec)

/-- 'laws.FnTranslates', WHERE WHAT IT READS IS OF BULK AT MOST 1048576: true; the input reads as it did. -/
def fnTranslatesUptoRow : OpenClaim := { program := "ytlegcppncdiijaa", sum := "f560741ce626e1f412e3c3c4eee3b1c5c9f79e720fec3964163206c735b6bc3d", func := "loop.example/g03402/laws.FnTranslates", spec := "fnTranslates", unfollowed := true, recurses := true, apart := false, narrowed := true }
def FnTranslatesUptoSaid : Prop := fnTranslatesUptoRow.holds Try.pinned (OpenSpec.upto fnTranslatesSpec)

/-- 'laws.FnCayley', WHERE WHAT IT READS IS OF BULK AT MOST 1048576: true; the input reads as it did. -/
def fnCayleyUptoRow : OpenClaim := { program := "ytlegcppncdiijaa", sum := "f560741ce626e1f412e3c3c4eee3b1c5c9f79e720fec3964163206c735b6bc3d", func := "loop.example/g03402/laws.FnCayley", spec := "fnCayley", unfollowed := true, recurses := true, apart := false, narrowed := true }
def FnCayleyUptoSaid : Prop := fnCayleyUptoRow.holds Try.pinned (OpenSpec.upto fnCayleySpec)

end Rows
end Go.Proofs.Ytlegcppncdiijaa
