/-
  No cell of these rows narrows 'for every input' (looked for: loops, veiled, ifaces, maps, wideKeys, modest, calm, conditions, laid).
  DERIVED. THE GIVEN ROWS OF THIS SEAT. 6 by the template 'for every input the law returns true; each argument reads behind the call as it read before'; 0 by the template 'total and deterministic' (their statements: YtfhadmlhaaplaaaTotals.lean).
  GIVEN WITH THE SEED: the statements are not yours to turn. If you find one false, say at which input.
  Laid BY PROGRAM, IN A SANDBOX (cutbox-rows.mjs): the forced cells as the released guide's own fill.sh prints them over the translation bac598e374306978… (all of the seat's roots in one cut). By AI agents, Wed Nov 11 2026. No macro, syntax, notation, axiom, sorry.
-/
import Derived.Test.YtfhadmlhaaplaaaChecked
import GoSem.Claim
import GoSem.ClaimJoined
import GoSem.ClaimMapViews
import Derived.JoinedTies
import Derived.KernelRfl
namespace Go.Proofs.Ytfhadmlhaaplaaa
/- THE CELL 'sum', in the pinned program and in every row, IS THE sha256 OF THE DUMP (.gsa) THAT YtfhadmlhaaplaaaProg.lean LOADS. Nothing in Lean hashes anything: it is a label: what it is worth is what the hold of that sum in a sandbox is worth. -/
noncomputable def Try.pinned : Pinned := { name := "ytfhadmlhaaplaaa", sum := "bac598e37430697846dd301b4bbfa631c509524f74d51274f3f6eb6c36ca90dc", checked := Try.checked }
namespace Rows
def none {H : Type} : Left H := { results := [], args := [] }

/-- 'laws.FnExactClaimWord': WHATEVER THE INPUT: true; the input reads as it did. -/
def fnExactClaimWordSpec : ChangeSpec := { name := "fnExactClaimWord", fn := fun _ => fun
  | [d] => { results := [.lit (.bool true)], args := [d] }
  | _ => none }
def fnExactClaimWordRow : OpenClaim := { program := "ytfhadmlhaaplaaa", sum := "bac598e37430697846dd301b4bbfa631c509524f74d51274f3f6eb6c36ca90dc", func := "loop.example/g03402/laws.FnExactClaimWord", spec := "fnExactClaimWord", apart := false }
def FnExactClaimWordSaid : Prop := fnExactClaimWordRow.holds Try.pinned (OpenSpec.ofChange fnExactClaimWordSpec)

/-- ITS FALSE NEIGHBOUR: 'it returns false'. Refute it at one input. -/
def fnExactClaimWordWrong : ChangeSpec := { name := "fnExactClaimWord", fn := fun _ => fun
  | [d] => { results := [.lit (.bool false)], args := [d] }
  | _ => none }
def FnExactClaimWordWrongFalsely : Prop := fnExactClaimWordRow.holds Try.pinned (OpenSpec.ofChange fnExactClaimWordWrong)

/-- 'laws.FnExactSizeFormula': WHATEVER THE INPUT: true; the input reads as it did. -/
def fnExactSizeFormulaSpec : ChangeSpec := { name := "fnExactSizeFormula", fn := fun _ => fun
  | [d1, d2, d3] => { results := [.lit (.bool true)], args := [d1, d2, d3] }
  | _ => none }
def fnExactSizeFormulaRow : OpenClaim := { program := "ytfhadmlhaaplaaa", sum := "bac598e37430697846dd301b4bbfa631c509524f74d51274f3f6eb6c36ca90dc", func := "loop.example/g03402/laws.FnExactSizeFormula", spec := "fnExactSizeFormula", apart := false }
def FnExactSizeFormulaSaid : Prop := fnExactSizeFormulaRow.holds Try.pinned (OpenSpec.ofChange fnExactSizeFormulaSpec)

/-- ITS FALSE NEIGHBOUR: 'it returns false'. Refute it at one input. -/
def fnExactSizeFormulaWrong : ChangeSpec := { name := "fnExactSizeFormula", fn := fun _ => fun
  | [d1, d2, d3] => { results := [.lit (.bool false)], args := [d1, d2, d3] }
  | _ => none }
def FnExactSizeFormulaWrongFalsely : Prop := fnExactSizeFormulaRow.holds Try.pinned (OpenSpec.ofChange fnExactSizeFormulaWrong)

/-- 'laws.FnExactDivisorsOf': WHATEVER THE INPUT: true; the input reads as it did. -/
def fnExactDivisorsOfSpec : ChangeSpec := { name := "fnExactDivisorsOf", fn := fun _ => fun
  | [d] => { results := [.lit (.bool true)], args := [d] }
  | _ => none }
def fnExactDivisorsOfRow : OpenClaim := { program := "ytfhadmlhaaplaaa", sum := "bac598e37430697846dd301b4bbfa631c509524f74d51274f3f6eb6c36ca90dc", func := "loop.example/g03402/laws.FnExactDivisorsOf", spec := "fnExactDivisorsOf", apart := false }
def FnExactDivisorsOfSaid : Prop := fnExactDivisorsOfRow.holds Try.pinned (OpenSpec.ofChange fnExactDivisorsOfSpec)

/-- ITS FALSE NEIGHBOUR: 'it returns false'. Refute it at one input. -/
def fnExactDivisorsOfWrong : ChangeSpec := { name := "fnExactDivisorsOf", fn := fun _ => fun
  | [d] => { results := [.lit (.bool false)], args := [d] }
  | _ => none }
def FnExactDivisorsOfWrongFalsely : Prop := fnExactDivisorsOfRow.holds Try.pinned (OpenSpec.ofChange fnExactDivisorsOfWrong)

/-- 'laws.FnExactEqualKept': WHATEVER THE INPUT: true; the input reads as it did. -/
def fnExactEqualKeptSpec : ChangeSpec := { name := "fnExactEqualKept", fn := fun _ => fun
  | [d1, d2] => { results := [.lit (.bool true)], args := [d1, d2] }
  | _ => none }
def fnExactEqualKeptRow : OpenClaim := { program := "ytfhadmlhaaplaaa", sum := "bac598e37430697846dd301b4bbfa631c509524f74d51274f3f6eb6c36ca90dc", func := "loop.example/g03402/laws.FnExactEqualKept", spec := "fnExactEqualKept", apart := false }
def FnExactEqualKeptSaid : Prop := fnExactEqualKeptRow.holds Try.pinned (OpenSpec.ofChange fnExactEqualKeptSpec)

/-- ITS FALSE NEIGHBOUR: 'it returns false'. Refute it at one input. -/
def fnExactEqualKeptWrong : ChangeSpec := { name := "fnExactEqualKept", fn := fun _ => fun
  | [d1, d2] => { results := [.lit (.bool false)], args := [d1, d2] }
  | _ => none }
def FnExactEqualKeptWrongFalsely : Prop := fnExactEqualKeptRow.holds Try.pinned (OpenSpec.ofChange fnExactEqualKeptWrong)

/-- 'laws.FnExactMeetingBound': WHATEVER THE INPUT: true; the input reads as it did. -/
def fnExactMeetingBoundSpec : ChangeSpec := { name := "fnExactMeetingBound", fn := fun _ => fun
  | [d1, d2] => { results := [.lit (.bool true)], args := [d1, d2] }
  | _ => none }
def fnExactMeetingBoundRow : OpenClaim := { program := "ytfhadmlhaaplaaa", sum := "bac598e37430697846dd301b4bbfa631c509524f74d51274f3f6eb6c36ca90dc", func := "loop.example/g03402/laws.FnExactMeetingBound", spec := "fnExactMeetingBound", apart := false }
def FnExactMeetingBoundSaid : Prop := fnExactMeetingBoundRow.holds Try.pinned (OpenSpec.ofChange fnExactMeetingBoundSpec)

/-- ITS FALSE NEIGHBOUR: 'it returns false'. Refute it at one input. -/
def fnExactMeetingBoundWrong : ChangeSpec := { name := "fnExactMeetingBound", fn := fun _ => fun
  | [d1, d2] => { results := [.lit (.bool false)], args := [d1, d2] }
  | _ => none }
def FnExactMeetingBoundWrongFalsely : Prop := fnExactMeetingBoundRow.holds Try.pinned (OpenSpec.ofChange fnExactMeetingBoundWrong)

/-- 'laws.FnExactEqualClaims': WHATEVER THE INPUT: true; the input reads as it did. -/
def fnExactEqualClaimsSpec : ChangeSpec := { name := "fnExactEqualClaims", fn := fun _ => fun
  | [d1, d2] => { results := [.lit (.bool true)], args := [d1, d2] }
  | _ => none }
def fnExactEqualClaimsRow : OpenClaim := { program := "ytfhadmlhaaplaaa", sum := "bac598e37430697846dd301b4bbfa631c509524f74d51274f3f6eb6c36ca90dc", func := "loop.example/g03402/laws.FnExactEqualClaims", spec := "fnExactEqualClaims", apart := false }
def FnExactEqualClaimsSaid : Prop := fnExactEqualClaimsRow.holds Try.pinned (OpenSpec.ofChange fnExactEqualClaimsSpec)

/-- ITS FALSE NEIGHBOUR: 'it returns false'. Refute it at one input. -/
def fnExactEqualClaimsWrong : ChangeSpec := { name := "fnExactEqualClaims", fn := fun _ => fun
  | [d1, d2] => { results := [.lit (.bool false)], args := [d1, d2] }
  | _ => none }
def FnExactEqualClaimsWrongFalsely : Prop := fnExactEqualClaimsRow.holds Try.pinned (OpenSpec.ofChange fnExactEqualClaimsWrong)

/- THE SECOND FORM. 'bulk': how many values and letters a reading holds, each counted each time it is reached (what is shared counts as often as it is met; a slice's spare places count too). A statement '..UptoSaid' is the law's where the arguments, and the package variables that the reading takes, are together of bulk at most 1048576: NARROWER than '..Said'. Prove '..Said' where nothing that the law and all that it calls make is longer than what came in: it says more and counts as full. Else prove '..UptoSaid'. A law counts once. -/
mutual
def uptoBulk {H : Type} : DataW H → Nat
  | .lit (.string bytes) => bytes.length + 1
  | .lit _ => 1
  | .nil => 1
  | .ptr d => uptoBulk d + 1
  | .slice elems spare => uptoBulkAll elems + uptoBulkAll spare + 1
  | .agg parts => uptoBulkAll parts + 1
  | .iface _ d => uptoBulk d + 1
  | .map entries => uptoBulkEntries entries + 1
  | .held _ => 1
def uptoBulkAll {H : Type} : List (DataW H) → Nat
  | [] => 0
  | d :: r => uptoBulk d + uptoBulkAll r
def uptoBulkEntries {H : Type} : List (Lit × DataW H) → Nat
  | [] => 0
  | x :: r => uptoBulkEntry x + uptoBulkEntries r
def uptoBulkEntry {H : Type} : Lit × DataW H → Nat
  | (.string bytes, d) => bytes.length + uptoBulk d + 1
  | (_, d) => uptoBulk d + 1
 end
def uptoSmall : (H : Type) → List (DataW H) → Bool := fun _ ds => decide (uptoBulkAll ds ≤ 1048576)
def OpenSpec.upto (s : _root_.Go.ChangeSpec) : _root_.Go.OpenSpec := { _root_.Go.OpenSpec.ofChange s with cond := some uptoSmall }

/-- 'laws.FnExactClaimWord', WHERE WHAT IT READS IS OF BULK AT MOST 1048576: true; the input reads as it did. -/
def fnExactClaimWordUptoRow : OpenClaim := { program := "ytfhadmlhaaplaaa", sum := "bac598e37430697846dd301b4bbfa631c509524f74d51274f3f6eb6c36ca90dc", func := "loop.example/g03402/laws.FnExactClaimWord", spec := "fnExactClaimWord", apart := false, narrowed := true }
def FnExactClaimWordUptoSaid : Prop := fnExactClaimWordUptoRow.holds Try.pinned (OpenSpec.upto fnExactClaimWordSpec)

/-- 'laws.FnExactSizeFormula', WHERE WHAT IT READS IS OF BULK AT MOST 1048576: true; the input reads as it did. -/
def fnExactSizeFormulaUptoRow : OpenClaim := { program := "ytfhadmlhaaplaaa", sum := "bac598e37430697846dd301b4bbfa631c509524f74d51274f3f6eb6c36ca90dc", func := "loop.example/g03402/laws.FnExactSizeFormula", spec := "fnExactSizeFormula", apart := false, narrowed := true }
def FnExactSizeFormulaUptoSaid : Prop := fnExactSizeFormulaUptoRow.holds Try.pinned (OpenSpec.upto fnExactSizeFormulaSpec)

/-- 'laws.FnExactDivisorsOf', WHERE WHAT IT READS IS OF BULK AT MOST 1048576: true; the input reads as it did. -/
def fnExactDivisorsOfUptoRow : OpenClaim := { program := "ytfhadmlhaaplaaa", sum := "bac598e37430697846dd301b4bbfa631c509524f74d51274f3f6eb6c36ca90dc", func := "loop.example/g03402/laws.FnExactDivisorsOf", spec := "fnExactDivisorsOf", apart := false, narrowed := true }
def FnExactDivisorsOfUptoSaid : Prop := fnExactDivisorsOfUptoRow.holds Try.pinned (OpenSpec.upto fnExactDivisorsOfSpec)

/-- 'laws.FnExactEqualKept', WHERE WHAT IT READS IS OF BULK AT MOST 1048576: true; the input reads as it did. -/
def fnExactEqualKeptUptoRow : OpenClaim := { program := "ytfhadmlhaaplaaa", sum := "bac598e37430697846dd301b4bbfa631c509524f74d51274f3f6eb6c36ca90dc", func := "loop.example/g03402/laws.FnExactEqualKept", spec := "fnExactEqualKept", apart := false, narrowed := true }
def FnExactEqualKeptUptoSaid : Prop := fnExactEqualKeptUptoRow.holds Try.pinned (OpenSpec.upto fnExactEqualKeptSpec)

/-- 'laws.FnExactMeetingBound', WHERE WHAT IT READS IS OF BULK AT MOST 1048576: true; the input reads as it did. -/
def fnExactMeetingBoundUptoRow : OpenClaim := { program := "ytfhadmlhaaplaaa", sum := "bac598e37430697846dd301b4bbfa631c509524f74d51274f3f6eb6c36ca90dc", func := "loop.example/g03402/laws.FnExactMeetingBound", spec := "fnExactMeetingBound", apart := false, narrowed := true }
def FnExactMeetingBoundUptoSaid : Prop := fnExactMeetingBoundUptoRow.holds Try.pinned (OpenSpec.upto fnExactMeetingBoundSpec)

/-- 'laws.FnExactEqualClaims', WHERE WHAT IT READS IS OF BULK AT MOST 1048576: true; the input reads as it did. -/
def fnExactEqualClaimsUptoRow : OpenClaim := { program := "ytfhadmlhaaplaaa", sum := "bac598e37430697846dd301b4bbfa631c509524f74d51274f3f6eb6c36ca90dc", func := "loop.example/g03402/laws.FnExactEqualClaims", spec := "fnExactEqualClaims", apart := false, narrowed := true }
def FnExactEqualClaimsUptoSaid : Prop := fnExactEqualClaimsUptoRow.holds Try.pinned (OpenSpec.upto fnExactEqualClaimsSpec)

end Rows
end Go.Proofs.Ytfhadmlhaaplaaa
