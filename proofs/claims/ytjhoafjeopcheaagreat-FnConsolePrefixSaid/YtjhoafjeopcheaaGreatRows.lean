/-
  No cell of these rows narrows 'for every input' (looked for: loops, veiled, ifaces, maps, wideKeys, modest, calm, conditions, laid).
  DERIVED. THE GIVEN ROWS OF THIS SEAT. 2 by the template 'for every input the law returns true; each argument reads behind the call as it read before'; 0 by the template 'total and deterministic' (their statements: YtjhoafjeopcheaaGreatTotals.lean).
  GIVEN WITH THE SEED: the statements are not yours to turn. If you find one false, say at which input.
  Laid BY PROGRAM, IN A SANDBOX (cutbox-rows.mjs): the forced cells as the released guide's own fill.sh prints them over the translation b697ad60ea3f954b… (all of the seat's roots in one cut). By AI agents, Wed Nov 11 2026. No macro, syntax, notation, axiom, sorry.
-/
import Derived.Test.YtjhoafjeopcheaaGreatChecked
import GoSem.Claim
import GoSem.ClaimJoined
import GoSem.ClaimMapViews
import Derived.JoinedTies
import Derived.KernelRfl
namespace Go.Proofs.YtjhoafjeopcheaaGreat
/- THE CELL 'sum', in the pinned program and in every row, IS THE sha256 OF THE DUMP (.gsa) THAT YtjhoafjeopcheaaGreatProg.lean LOADS. Nothing in Lean hashes anything: it is a label: what it is worth is what the hold of that sum in a sandbox is worth. -/
noncomputable def Tryz.pinned : Pinned := { name := "ytjhoafjeopcheaagreat", sum := "b697ad60ea3f954b0578b4d776b0aab2eca81242fbab963fe417f9236b895e33", checked := Tryz.checked }
namespace Rows
def none {H : Type} : Left H := { results := [], args := [] }

/-- 'laws.FnExactRunConsole': WHATEVER THE INPUT: true; the input reads as it did. -/
def fnExactRunConsoleSpec : ChangeSpec := { name := "fnExactRunConsole", fn := fun _ => fun
  | [d] => { results := [.lit (.bool true)], args := [d] }
  | _ => none }
def fnExactRunConsoleRow : OpenClaim := { program := "ytjhoafjeopcheaagreat", sum := "b697ad60ea3f954b0578b4d776b0aab2eca81242fbab963fe417f9236b895e33", func := "loop.example/g03402/laws.FnExactRunConsole", spec := "fnExactRunConsole", unfollowed := true, recurses := true, apart := false }
def FnExactRunConsoleSaid : Prop := fnExactRunConsoleRow.holds Tryz.pinned (OpenSpec.ofChange fnExactRunConsoleSpec)

/-- ITS FALSE NEIGHBOUR: 'it returns false'. Refute it at one input. -/
def fnExactRunConsoleWrong : ChangeSpec := { name := "fnExactRunConsole", fn := fun _ => fun
  | [d] => { results := [.lit (.bool false)], args := [d] }
  | _ => none }
def FnExactRunConsoleWrongFalsely : Prop := fnExactRunConsoleRow.holds Tryz.pinned (OpenSpec.ofChange fnExactRunConsoleWrong)

/-- 'laws.FnConsolePrefix': WHATEVER THE INPUT: true; the input reads as it did. -/
def fnConsolePrefixSpec : ChangeSpec := { name := "fnConsolePrefix", fn := fun _ => fun
  | [d] => { results := [.lit (.bool true)], args := [d] }
  | _ => none }
def fnConsolePrefixRow : OpenClaim := { program := "ytjhoafjeopcheaagreat", sum := "b697ad60ea3f954b0578b4d776b0aab2eca81242fbab963fe417f9236b895e33", func := "loop.example/g03402/laws.FnConsolePrefix", spec := "fnConsolePrefix", unfollowed := true, recurses := true, apart := false }
def FnConsolePrefixSaid : Prop := fnConsolePrefixRow.holds Tryz.pinned (OpenSpec.ofChange fnConsolePrefixSpec)

/-- ITS FALSE NEIGHBOUR: 'it returns false'. Refute it at one input. -/
def fnConsolePrefixWrong : ChangeSpec := { name := "fnConsolePrefix", fn := fun _ => fun
  | [d] => { results := [.lit (.bool false)], args := [d] }
  | _ => none }
def FnConsolePrefixWrongFalsely : Prop := fnConsolePrefixRow.holds Tryz.pinned (OpenSpec.ofChange fnConsolePrefixWrong)

/- THE SECOND FORM. 'bulk': how many values and letters a reading holds, each counted each time it is reached (what is shared counts as often as it is met; a slice's spare places count too). A statement '..UptoSaid' is the law's where the arguments, and the package variables that the reading takes, are together of bulk at most 1048576: NARROWER than '..Said'. Prove '..Said' where nothing that the law and all that it calls make is longer than what came in: it says more and counts as full. Else prove '..UptoSaid'. A law counts once. -/
mutual
def uptoBulk {H : Type} : DataW H → Nat
  | .lit (.string bytes) => bytes.length + 1
  | .lit _ => 1
  | .nil => 1
  | .ptr d => uptoBulk d + 1
  | .slice elems spare => uptoBulkAll elems + uptoBulkAll spare + 1
  | .agg parts => uptoBulkAll parts + 1
  | .iface _ d => uptoBulk d + 1
  | .map entries => uptoBulkEntries entries + 1
  | .held _ => 1
def uptoBulkAll {H : Type} : List (DataW H) → Nat
  | [] => 0
  | d :: r => uptoBulk d + uptoBulkAll r
def uptoBulkEntries {H : Type} : List (Lit × DataW H) → Nat
  | [] => 0
  | x :: r => uptoBulkEntry x + uptoBulkEntries r
def uptoBulkEntry {H : Type} : Lit × DataW H → Nat
  | (.string bytes, d) => bytes.length + uptoBulk d + 1
  | (_, d) => uptoBulk d + 1
 end
def uptoSmall : (H : Type) → List (DataW H) → Bool := fun _ ds => decide (uptoBulkAll ds ≤ 1048576)
def OpenSpec.upto (s : _root_.Go.ChangeSpec) : _root_.Go.OpenSpec := { _root_.Go.OpenSpec.ofChange s with cond := some uptoSmall }

/-- 'laws.FnExactRunConsole', WHERE WHAT IT READS IS OF BULK AT MOST 1048576: true; the input reads as it did. -/
def fnExactRunConsoleUptoRow : OpenClaim := { program := "ytjhoafjeopcheaagreat", sum := "b697ad60ea3f954b0578b4d776b0aab2eca81242fbab963fe417f9236b895e33", func := "loop.example/g03402/laws.FnExactRunConsole", spec := "fnExactRunConsole", unfollowed := true, recurses := true, apart := false, narrowed := true }
def FnExactRunConsoleUptoSaid : Prop := fnExactRunConsoleUptoRow.holds Tryz.pinned (OpenSpec.upto fnExactRunConsoleSpec)

/-- 'laws.FnConsolePrefix', WHERE WHAT IT READS IS OF BULK AT MOST 1048576: true; the input reads as it did. -/
def fnConsolePrefixUptoRow : OpenClaim := { program := "ytjhoafjeopcheaagreat", sum := "b697ad60ea3f954b0578b4d776b0aab2eca81242fbab963fe417f9236b895e33", func := "loop.example/g03402/laws.FnConsolePrefix", spec := "fnConsolePrefix", unfollowed := true, recurses := true, apart := false, narrowed := true }
def FnConsolePrefixUptoSaid : Prop := fnConsolePrefixUptoRow.holds Tryz.pinned (OpenSpec.upto fnConsolePrefixSpec)

end Rows
end Go.Proofs.YtjhoafjeopcheaaGreat
