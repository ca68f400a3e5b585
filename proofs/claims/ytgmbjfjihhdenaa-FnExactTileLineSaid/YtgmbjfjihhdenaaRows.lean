/-
  No cell of these rows narrows 'for every input' (looked for: loops, veiled, ifaces, maps, wideKeys, modest, calm, conditions, laid).
  DERIVED. THE GIVEN ROWS OF THIS SEAT. 6 by the template 'for every input the law returns true; each argument reads behind the call as it read before'; 0 by the template 'total and deterministic' (their statements: YtgmbjfjihhdenaaTotals.lean).
  GIVEN WITH THE SEED: the statements are not yours to turn. If you find one false, say at which input.
  Laid BY PROGRAM, IN A SANDBOX (cutbox-rows.mjs): the forced cells as the released guide's own fill.sh prints them over the translation 6f437c6bab01eda3… (all of the seat's roots in one cut). By AI agents, Wed Nov 11 2026. No macro, syntax, notation, axiom, sorry.
-/
import Derived.Test.YtgmbjfjihhdenaaChecked
import GoSem.Claim
import GoSem.ClaimJoined
import GoSem.ClaimMapViews
import Derived.JoinedTies
import Derived.KernelRfl
namespace Go.Proofs.Ytgmbjfjihhdenaa
/- THE CELL 'sum', in the pinned program and in every row, IS THE sha256 OF THE DUMP (.gsa) THAT YtgmbjfjihhdenaaProg.lean LOADS. Nothing in Lean hashes anything: it is a label: what it is worth is what the hold of that sum in a sandbox is worth. -/
noncomputable def Try.pinned : Pinned := { name := "ytgmbjfjihhdenaa", sum := "6f437c6bab01eda32369c3d53cd515bfc72855cb291704b6e27b44a0e3594ec4", checked := Try.checked }
namespace Rows
def none {H : Type} : Left H := { results := [], args := [] }

/-- 'laws.FnExactEquationLine': WHATEVER THE INPUT: true; the input reads as it did. -/
def fnExactEquationLineSpec : ChangeSpec := { name := "fnExactEquationLine", fn := fun _ => fun
  | [d] => { results := [.lit (.bool true)], args := [d] }
  | _ => none }
def fnExactEquationLineRow : OpenClaim := { program := "ytgmbjfjihhdenaa", sum := "6f437c6bab01eda32369c3d53cd515bfc72855cb291704b6e27b44a0e3594ec4", func := "loop.example/g03402/laws.FnExactEquationLine", spec := "fnExactEquationLine", unfollowed := true, recurses := true, apart := false }
def FnExactEquationLineSaid : Prop := fnExactEquationLineRow.holds Try.pinned (OpenSpec.ofChange fnExactEquationLineSpec)

/-- ITS FALSE NEIGHBOUR: 'it returns false'. Refute it at one input. -/
def fnExactEquationLineWrong : ChangeSpec := { name := "fnExactEquationLine", fn := fun _ => fun
  | [d] => { results := [.lit (.bool false)], args := [d] }
  | _ => none }
def FnExactEquationLineWrongFalsely : Prop := fnExactEquationLineRow.holds Try.pinned (OpenSpec.ofChange fnExactEquationLineWrong)

/-- 'laws.FnExactExtremalLine': WHATEVER THE INPUT: true; the input reads as it did. -/
def fnExactExtremalLineSpec : ChangeSpec := { name := "fnExactExtremalLine", fn := fun _ => fun
  | [d] => { results := [.lit (.bool true)], args := [d] }
  | _ => none }
def fnExactExtremalLineRow : OpenClaim := { program := "ytgmbjfjihhdenaa", sum := "6f437c6bab01eda32369c3d53cd515bfc72855cb291704b6e27b44a0e3594ec4", func := "loop.example/g03402/laws.FnExactExtremalLine", spec := "fnExactExtremalLine", unfollowed := true, recurses := true, apart := false }
def FnExactExtremalLineSaid : Prop := fnExactExtremalLineRow.holds Try.pinned (OpenSpec.ofChange fnExactExtremalLineSpec)

/-- ITS FALSE NEIGHBOUR: 'it returns false'. Refute it at one input. -/
def fnExactExtremalLineWrong : ChangeSpec := { name := "fnExactExtremalLine", fn := fun _ => fun
  | [d] => { results := [.lit (.bool false)], args := [d] }
  | _ => none }
def FnExactExtremalLineWrongFalsely : Prop := fnExactExtremalLineRow.holds Try.pinned (OpenSpec.ofChange fnExactExtremalLineWrong)

/-- 'laws.FnExactTileLine': WHATEVER THE INPUT: true; the input reads as it did. -/
def fnExactTileLineSpec : ChangeSpec := { name := "fnExactTileLine", fn := fun _ => fun
  | [d1, d2] => { results := [.lit (.bool true)], args := [d1, d2] }
  | _ => none }
def fnExactTileLineRow : OpenClaim := { program := "ytgmbjfjihhdenaa", sum := "6f437c6bab01eda32369c3d53cd515bfc72855cb291704b6e27b44a0e3594ec4", func := "loop.example/g03402/laws.FnExactTileLine", spec := "fnExactTileLine", unfollowed := true, recurses := true, apart := false }
def FnExactTileLineSaid : Prop := fnExactTileLineRow.holds Try.pinned (OpenSpec.ofChange fnExactTileLineSpec)

/-- ITS FALSE NEIGHBOUR: 'it returns false'. Refute it at one input. -/
def fnExactTileLineWrong : ChangeSpec := { name := "fnExactTileLine", fn := fun _ => fun
  | [d1, d2] => { results := [.lit (.bool false)], args := [d1, d2] }
  | _ => none }
def FnExactTileLineWrongFalsely : Prop := fnExactTileLineRow.holds Try.pinned (OpenSpec.ofChange fnExactTileLineWrong)

/-- 'laws.FnEdits': WHATEVER THE INPUT: true; the input reads as it did. -/
def fnEditsSpec : ChangeSpec := { name := "fnEdits", fn := fun _ => fun
  | [d] => { results := [.lit (.bool true)], args := [d] }
  | _ => none }
def fnEditsRow : OpenClaim := { program := "ytgmbjfjihhdenaa", sum := "6f437c6bab01eda32369c3d53cd515bfc72855cb291704b6e27b44a0e3594ec4", func := "loop.example/g03402/laws.FnEdits", spec := "fnEdits", apart := false }
def FnEditsSaid : Prop := fnEditsRow.holds Try.pinned (OpenSpec.ofChange fnEditsSpec)

/-- ITS FALSE NEIGHBOUR: 'it returns false'. Refute it at one input. -/
def fnEditsWrong : ChangeSpec := { name := "fnEdits", fn := fun _ => fun
  | [d] => { results := [.lit (.bool false)], args := [d] }
  | _ => none }
def FnEditsWrongFalsely : Prop := fnEditsRow.holds Try.pinned (OpenSpec.ofChange fnEditsWrong)

/-- 'laws.FnTranslates': WHATEVER THE INPUT: true; the input reads as it did. -/
def fnTranslatesSpec : ChangeSpec := { name := "fnTranslates", fn := fun _ => fun
  | [d] => { results := [.lit (.bool true)], args := [d] }
  | _ => none }
def fnTranslatesRow : OpenClaim := { program := "ytgmbjfjihhdenaa", sum := "6f437c6bab01eda32369c3d53cd515bfc72855cb291704b6e27b44a0e3594ec4", func := "loop.example/g03402/laws.FnTranslates", spec := "fnTranslates", unfollowed := true, recurses := true, apart := false }
def FnTranslatesSaid : Prop := fnTranslatesRow.holds Try.pinned (OpenSpec.ofChange fnTranslatesSpec)

/-- ITS FALSE NEIGHBOUR: 'it returns false'. Refute it at one input. -/
def fnTranslatesWrong : ChangeSpec := { name := "fnTranslates", fn := fun _ => fun
  | [d] => { results := [.lit (.bool false)], args := [d] }
  | _ => none }
def FnTranslatesWrongFalsely : Prop := fnTranslatesRow.holds Try.pinned (OpenSpec.ofChange fnTranslatesWrong)

/-- 'laws.FnCayley': WHATEVER THE INPUT: true; the input reads as it did. -/
def fnCayleySpec : ChangeSpec := { name := "fnCayley", fn := fun _ => fun
  | [d] => { results := [.lit (.bool true)], args := [d] }
  | _ => none }
def fnCayleyRow : OpenClaim := { program := "ytgmbjfjihhdenaa", sum := "6f437c6bab01eda32369c3d53cd515bfc72855cb291704b6e27b44a0e3594ec4", func := "loop.example/g03402/laws.FnCayley", spec := "fnCayley", unfollowed := true, recurses := true, apart := false }
def FnCayleySaid : Prop := fnCayleyRow.holds Try.pinned (OpenSpec.ofChange fnCayleySpec)

/-- ITS FALSE NEIGHBOUR: 'it returns false'. Refute it at one input. -/
def fnCayleyWrong : ChangeSpec := { name := "fnCayley", fn := fun _ => fun
  | [d] => { results := [.lit (.bool false)], args := [d] }
  | _ => none }
def FnCayleyWrongFalsely : Prop := fnCayleyRow.holds Try.pinned (OpenSpec.ofChange fnCayleyWrong)

/- THE SECOND FORM. 'bulk': how many values and letters a reading holds, each counted each time it is reached (what is shared counts as often as it is met; a slice's spare places count too). A statement '..UptoSaid' is the law's where the arguments, and the package variables that the reading takes, are together of bulk at most 1048576: NARROWER than '..Said'. Prove '..Said' where nothing that the law and all that it calls make is longer than what came in: it says more and counts as full. Else prove '..UptoSaid'. A law counts once. -/
mutual
def uptoBulk {H : Type} : DataW H → Nat
  | .lit (.string bytes) => bytes.length + 1
  | .lit _ => 1
  | .nil => 1
  | .ptr d => uptoBulk d + 1
  | .slice elems spare => uptoBulkAll elems + uptoBulkAll spare + 1
  | .agg parts => uptoBulkAll parts + 1
  | .iface _ d => uptoBulk d + 1
  | .map entries => uptoBulkEntries entries + 1
  | .held _ => 1
def uptoBulkAll {H : Type} : List (DataW H) → Nat
  | [] => 0
  | d :: r => uptoBulk d + uptoBulkAll r
def uptoBulkEntries {H : Type} : List (Lit × DataW H) → Nat
  | [] => 0
  | x :: r => uptoBulkEntry x + uptoBulkEntries r
def uptoBulkEntry {H : Type} : Lit × DataW H → Nat
  | (.string bytes, d) => bytes.length + uptoBulk d + 1
  | (_, d) => uptoBulk d + 1
 end
def uptoSmall : (H : Type) → List (DataW H) → Bool := fun _ ds => decide (uptoBulkAll ds ≤ 1048576)
def OpenSpec.upto (s : _root_.Go.ChangeSpec) : _root_.Go.OpenSpec := { _root_.Go.OpenSpec.ofChange s with cond := some uptoSmall }

/-- 'laws.FnExactEquationLine', WHERE WHAT IT READS IS OF BULK AT MOST 1048576: true; the input reads as it did. -/
def fnExactEquationLineUptoRow : OpenClaim := { program := "ytgmbjfjihhdenaa", sum := "6f437c6bab01eda32369c3d53cd515bfc72855cb291704b6e27b44a0e3594ec4", func := "loop.example/g03402/laws.FnExactEquationLine", spec := "fnExactEquationLine", unfollowed := true, recurses := true, apart := false, narrowed := true }
def FnExactEquationLineUptoSaid : Prop := fnExactEquationLineUptoRow.holds Try.pinned (OpenSpec.upto fnExactEquationLineSpec)

/-- 'laws.FnExactExtremalLine', WHERE WHAT IT READS IS OF BULK AT MOST 1048576: true; the input reads as it did. -/
def fnExactExtremalLineUptoRow : OpenClaim := { program := "ytgmbjfjihhdenaa", sum := "6f437c6bab01eda32369c3d53cd515bfc72855cb291704b6e27b44a0e3594ec4", func := "loop.example/g03402/laws.FnExactExtremalLine", spec := "fnExactExtremalLine", unfollowed := true, recurses := true, apart := false, narrowed := true }
def FnExactExtremalLineUptoSaid : Prop := fnExactExtremalLineUptoRow.holds Try.pinned (OpenSpec.upto fnExactExtremalLineSpec)

/-- 'laws.FnExactTileLine', WHERE WHAT IT READS IS OF BULK AT MOST 1048576: true; the input reads as it did. -/
def fnExactTileLineUptoRow : OpenClaim := { program := "ytgmbjfjihhdenaa", sum := "6f437c6bab01eda32369c3d53cd515bfc72855cb291704b6e27b44a0e3594ec4", func := "loop.example/g03402/laws.FnExactTileLine", spec := "fnExactTileLine", unfollowed := true, recurses := true, apart := false, narrowed := true }
def FnExactTileLineUptoSaid : Prop := fnExactTileLineUptoRow.holds Try.pinned (OpenSpec.upto fnExactTileLineSpec)

/-- 'laws.FnEdits', WHERE WHAT IT READS IS OF BULK AT MOST 1048576: true; the input reads as it did. -/
def fnEditsUptoRow : OpenClaim := { program := "ytgmbjfjihhdenaa", sum := "6f437c6bab01eda32369c3d53cd515bfc72855cb291704b6e27b44a0e3594ec4", func := "loop.example/g03402/laws.FnEdits", spec := "fnEdits", apart := false, narrowed := true }
def FnEditsUptoSaid : Prop := fnEditsUptoRow.holds Try.pinned (OpenSpec.upto fnEditsSpec)

/-- 'laws.FnTranslates', WHERE WHAT IT READS IS OF BULK AT MOST 1048576: true; the input reads as it did. -/
def fnTranslatesUptoRow : OpenClaim := { program := "ytgmbjfjihhdenaa", sum := "6f437c6bab01eda32369c3d53cd515bfc72855cb291704b6e27b44a0e3594ec4", func := "loop.example/g03402/laws.FnTranslates", spec := "fnTranslates", unfollowed := true, recurses := true, apart := false, narrowed := true }
def FnTranslatesUptoSaid : Prop := fnTranslatesUptoRow.holds Try.pinned (OpenSpec.upto fnTranslatesSpec)

/-- 'laws.FnCayley', WHERE WHAT IT READS IS OF BULK AT MOST 1048576: true; the input reads as it did. -/
def fnCayleyUptoRow : OpenClaim := { program := "ytgmbjfjihhdenaa", sum := "6f437c6bab01eda32369c3d53cd515bfc72855cb291704b6e27b44a0e3594ec4", func := "loop.example/g03402/laws.FnCayley", spec := "fnCayley", unfollowed := true, recurses := true, apart := false, narrowed := true }
def FnCayleyUptoSaid : Prop := fnCayleyUptoRow.holds Try.pinned (OpenSpec.upto fnCayleySpec)

end Rows
end Go.Proofs.Ytgmbjfjihhdenaa
