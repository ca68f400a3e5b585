/-
  No cell of these rows narrows 'for every input' (looked for: loops, veiled, ifaces, maps, wideKeys, modest, calm, conditions, laid).
  DERIVED. THE GIVEN ROWS OF THIS SEAT. 6 by the template 'for every input the law returns true; each argument reads behind the call as it read before'; 0 by the template 'total and deterministic' (their statements: YtopmhjmjmdohhaaTotals.lean).
  GIVEN WITH THE SEED: the statements are not yours to turn. If you find one false, say at which input.
  Laid BY PROGRAM, IN A SANDBOX (cutbox-rows.mjs): the forced cells as the released guide's own fill.sh prints them over the translation 36605d99f138884b… (all of the seat's roots in one cut). By AI agents, Wed Nov 11 2026. No macro, syntax, notation, axiom, sorry.
-/
import Derived.Test.YtopmhjmjmdohhaaChecked
import GoSem.Claim
import GoSem.ClaimJoined
import GoSem.ClaimMapViews
import Derived.JoinedTies
import Derived.KernelRfl
namespace Go.Proofs.Ytopmhjmjmdohhaa
/- THE CELL 'sum', in the pinned program and in every row, IS THE sha256 OF THE DUMP (.gsa) THAT YtopmhjmjmdohhaaProg.lean LOADS. Nothing in Lean hashes anything: it is a label: what it is worth is what the hold of that sum in a sandbox is worth. -/
noncomputable def Try.pinned : Pinned := { name := "ytopmhjmjmdohhaa", sum := "36605d99f138884b9d403f0cb61928b8ed43b65549ea62edf74e24b627f5beaa", checked := Try.checked }
namespace Rows
def none {H : Type} : Left H := { results := [], args := [] }

/-- 'laws.FnExactClaimOfColors': WHATEVER THE INPUT: true; the input reads as it did. -/
def fnExactClaimOfColorsSpec : ChangeSpec := { name := "fnExactClaimOfColors", fn := fun _ => fun
  | [d] => { results := [.lit (.bool true)], args := [d] }
  | _ => none }
def fnExactClaimOfColorsRow : OpenClaim := { program := "ytopmhjmjmdohhaa", sum := "36605d99f138884b9d403f0cb61928b8ed43b65549ea62edf74e24b627f5beaa", func := "loop.example/g03402/laws.FnExactClaimOfColors", spec := "fnExactClaimOfColors", unfollowed := true, recurses := true, apart := false }
def FnExactClaimOfColorsSaid : Prop := fnExactClaimOfColorsRow.holds Try.pinned (OpenSpec.ofChange fnExactClaimOfColorsSpec)

/-- ITS FALSE NEIGHBOUR: 'it returns false'. Refute it at one input. -/
def fnExactClaimOfColorsWrong : ChangeSpec := { name := "fnExactClaimOfColors", fn := fun _ => fun
  | [d] => { results := [.lit (.bool false)], args := [d] }
  | _ => none }
def FnExactClaimOfColorsWrongFalsely : Prop := fnExactClaimOfColorsRow.holds Try.pinned (OpenSpec.ofChange fnExactClaimOfColorsWrong)

/-- 'laws.FnExactLargestClique': WHATEVER THE INPUT: true; the input reads as it did. -/
def fnExactLargestCliqueSpec : ChangeSpec := { name := "fnExactLargestClique", fn := fun _ => fun
  | [d1, d2] => { results := [.lit (.bool true)], args := [d1, d2] }
  | _ => none }
def fnExactLargestCliqueRow : OpenClaim := { program := "ytopmhjmjmdohhaa", sum := "36605d99f138884b9d403f0cb61928b8ed43b65549ea62edf74e24b627f5beaa", func := "loop.example/g03402/laws.FnExactLargestClique", spec := "fnExactLargestClique", unfollowed := true, recurses := true, apart := false }
def FnExactLargestCliqueSaid : Prop := fnExactLargestCliqueRow.holds Try.pinned (OpenSpec.ofChange fnExactLargestCliqueSpec)

/-- ITS FALSE NEIGHBOUR: 'it returns false'. Refute it at one input. -/
def fnExactLargestCliqueWrong : ChangeSpec := { name := "fnExactLargestClique", fn := fun _ => fun
  | [d1, d2] => { results := [.lit (.bool false)], args := [d1, d2] }
  | _ => none }
def FnExactLargestCliqueWrongFalsely : Prop := fnExactLargestCliqueRow.holds Try.pinned (OpenSpec.ofChange fnExactLargestCliqueWrong)

/-- 'laws.FnExactEquationLine': WHATEVER THE INPUT: true; the input reads as it did. -/
def fnExactEquationLineSpec : ChangeSpec := { name := "fnExactEquationLine", fn := fun _ => fun
  | [d] => { results := [.lit (.bool true)], args := [d] }
  | _ => none }
def fnExactEquationLineRow : OpenClaim := { program := "ytopmhjmjmdohhaa", sum := "36605d99f138884b9d403f0cb61928b8ed43b65549ea62edf74e24b627f5beaa", func := "loop.example/g03402/laws.FnExactEquationLine", spec := "fnExactEquationLine", unfollowed := true, recurses := true, apart := false }
def FnExactEquationLineSaid : Prop := fnExactEquationLineRow.holds Try.pinned (OpenSpec.ofChange fnExactEquationLineSpec)

/-- ITS FALSE NEIGHBOUR: 'it returns false'. Refute it at one input. -/
def fnExactEquationLineWrong : ChangeSpec := { name := "fnExactEquationLine", fn := fun _ => fun
  | [d] => { results := [.lit (.bool false)], args := [d] }
  | _ => none }
def FnExactEquationLineWrongFalsely : Prop := fnExactEquationLineRow.holds Try.pinned (OpenSpec.ofChange fnExactEquationLineWrong)

/-- 'laws.FnExactClaimOfTile': WHATEVER THE INPUT: true; the input reads as it did. -/
def fnExactClaimOfTileSpec : ChangeSpec := { name := "fnExactClaimOfTile", fn := fun _ => fun
  | [d1, d2] => { results := [.lit (.bool true)], args := [d1, d2] }
  | _ => none }
def fnExactClaimOfTileRow : OpenClaim := { program := "ytopmhjmjmdohhaa", sum := "36605d99f138884b9d403f0cb61928b8ed43b65549ea62edf74e24b627f5beaa", func := "loop.example/g03402/laws.FnExactClaimOfTile", spec := "fnExactClaimOfTile", unfollowed := true, recurses := true, apart := false }
def FnExactClaimOfTileSaid : Prop := fnExactClaimOfTileRow.holds Try.pinned (OpenSpec.ofChange fnExactClaimOfTileSpec)

/-- ITS FALSE NEIGHBOUR: 'it returns false'. Refute it at one input. -/
def fnExactClaimOfTileWrong : ChangeSpec := { name := "fnExactClaimOfTile", fn := fun _ => fun
  | [d1, d2] => { results := [.lit (.bool false)], args := [d1, d2] }
  | _ => none }
def FnExactClaimOfTileWrongFalsely : Prop := fnExactClaimOfTileRow.holds Try.pinned (OpenSpec.ofChange fnExactClaimOfTileWrong)

/-- 'laws.FnExactClaimOfAlike': WHATEVER THE INPUT: true; the input reads as it did. -/
def fnExactClaimOfAlikeSpec : ChangeSpec := { name := "fnExactClaimOfAlike", fn := fun _ => fun
  | [d1, d2, d3, d4] => { results := [.lit (.bool true)], args := [d1, d2, d3, d4] }
  | _ => none }
def fnExactClaimOfAlikeRow : OpenClaim := { program := "ytopmhjmjmdohhaa", sum := "36605d99f138884b9d403f0cb61928b8ed43b65549ea62edf74e24b627f5beaa", func := "loop.example/g03402/laws.FnExactClaimOfAlike", spec := "fnExactClaimOfAlike", unfollowed := true, recurses := true, apart := false }
def FnExactClaimOfAlikeSaid : Prop := fnExactClaimOfAlikeRow.holds Try.pinned (OpenSpec.ofChange fnExactClaimOfAlikeSpec)

/-- ITS FALSE NEIGHBOUR: 'it returns false'. Refute it at one input. -/
def fnExactClaimOfAlikeWrong : ChangeSpec := { name := "fnExactClaimOfAlike", fn := fun _ => fun
  | [d1, d2, d3, d4] => { results := [.lit (.bool false)], args := [d1, d2, d3, d4] }
  | _ => none }
def FnExactClaimOfAlikeWrongFalsely : Prop := fnExactClaimOfAlikeRow.holds Try.pinned (OpenSpec.ofChange fnExactClaimOfAlikeWrong)

/-- 'laws.FnExactFormatClaim': WHATEVER THE INPUT: true; the input reads as it did. -/
def fnExactFormatClaimSpec : ChangeSpec := { name := "fnExactFormatClaim", fn := fun _ => fun
  | [d] => { results := [.lit (.bool true)], args := [d] }
  | _ => none }
def fnExactFormatClaimRow : OpenClaim := { program := "ytopmhjmjmdohhaa", sum := "36605d99f138884b9d403f0cb61928b8ed43b65549ea62edf74e24b627f5beaa", func := "loop.example/g03402/laws.FnExactFormatClaim", spec := "fnExactFormatClaim", apart := false }
def FnExactFormatClaimSaid : Prop := fnExactFormatClaimRow.holds Try.pinned (OpenSpec.ofChange fnExactFormatClaimSpec)

/-- ITS FALSE NEIGHBOUR: 'it returns false'. Refute it at one input. -/
def fnExactFormatClaimWrong : ChangeSpec := { name := "fnExactFormatClaim", fn := fun _ => fun
  | [d] => { results := [.lit (.bool false)], args := [d] }
  | _ => none }
def FnExactFormatClaimWrongFalsely : Prop := fnExactFormatClaimRow.holds Try.pinned (OpenSpec.ofChange fnExactFormatClaimWrong)

/- THE SECOND FORM. 'bulk': how many values and letters a reading holds, each counted each time it is reached (what is shared counts as often as it is met; a slice's spare places count too). A statement '..UptoSaid' is the law's where the arguments, and the package variables that the reading takes, are together of bulk at most 1048576: NARROWER than '..Said'. Prove '..Said' where nothing that the law and all that it calls make is longer than what came in: it says more and counts as full. Else prove '..UptoSaid'. A law counts once. -/
mutual
def uptoBulk {H : Type} : DataW H → Nat
  | .lit (.string bytes) => bytes.length + 1
  | .lit _ => 1
  | .nil => 1
  | .ptr d => uptoBulk d + 1
  | .slice elems spare => uptoBulkAll elems + uptoBulkAll spare + 1
  | .agg parts => uptoBulkAll parts + 1
  | .iface _ d => uptoBulk d + 1
  | .map entries => uptoBulkEntries entries + 1
  | .held _ => 1
def uptoBulkAll {H : Type} : List (DataW H) → Nat
  | [] => 0
  | d :: r => uptoBulk d + uptoBulkAll r
def uptoBulkEntries {H : Type} : List (Lit × DataW H) → Nat
  | [] => 0
  | x :: r => uptoBulkEntry x + uptoBulkEntries r
def uptoBulkEntry {H : Type} : Lit × DataW H → Nat
  | (.string bytes, d) => bytes.length + uptoBulk d + 1
  | (_, d) => uptoBulk d + 1
 end
def uptoSmall : (H : Type) → List (DataW H) → Bool := fun _ ds => decide (uptoBulkAll ds ≤ 1048576)
def OpenSpec.upto (s : _root_.Go.ChangeSpec) : _root_.Go.OpenSpec := { _root_.Go.OpenSpec.ofChange s with cond := some uptoSmall }

/-- 'laws.FnExactClaimOfColors', WHERE WHAT IT READS IS OF BULK AT MOST 1048576: true; the input reads as it did. -/
def fnExactClaimOfColorsUptoRow : OpenClaim := { program := "ytopmhjmjmdohhaa", sum := "36605d99f138884b9d403f0cb61928b8ed43b65549ea62edf74e24b627f5beaa", func := "loop.example/g03402/laws.FnExactClaimOfColors", spec := "fnExactClaimOfColors", unfollowed := true, recurses := true, apart := false, narrowed := true }
def FnExactClaimOfColorsUptoSaid : Prop := fnExactClaimOfColorsUptoRow.holds Try.pinned (OpenSpec.upto fnExactClaimOfColorsSpec)

/-- 'laws.FnExactLargestClique', WHERE WHAT IT READS IS OF BULK AT MOST 1048576: true; the input reads as it did. -/
def fnExactLargestCliqueUptoRow : OpenClaim := { program := "ytopmhjmjmdohhaa", sum := "36605d99f138884b9d403f0cb61928b8ed43b65549ea62edf74e24b627f5beaa", func := "loop.example/g03402/laws.FnExactLargestClique", spec := "fnExactLargestClique", unfollowed := true, recurses := true, apart := false, narrowed := true }
def FnExactLargestCliqueUptoSaid : Prop := fnExactLargestCliqueUptoRow.holds Try.pinned (OpenSpec.upto fnExactLargestCliqueSpec)

/-- 'laws.FnExactEquationLine', WHERE WHAT IT READS IS OF BULK AT MOST 1048576: true; the input reads as it did. -/
def fnExactEquationLineUptoRow : OpenClaim := { program := "ytopmhjmjmdohhaa", sum := "36605d99f138884b9d403f0cb61928b8ed43b65549ea62edf74e24b627f5beaa", func := "loop.example/g03402/laws.FnExactEquationLine", spec := "fnExactEquationLine", unfollowed := true, recurses := true, apart := false, narrowed := true }
def FnExactEquationLineUptoSaid : Prop := fnExactEquationLineUptoRow.holds Try.pinned (OpenSpec.upto fnExactEquationLineSpec)

/-- 'laws.FnExactClaimOfTile', WHERE WHAT IT READS IS OF BULK AT MOST 1048576: true; the input reads as it did. -/
def fnExactClaimOfTileUptoRow : OpenClaim := { program := "ytopmhjmjmdohhaa", sum := "36605d99f138884b9d403f0cb61928b8ed43b65549ea62edf74e24b627f5beaa", func := "loop.example/g03402/laws.FnExactClaimOfTile", spec := "fnExactClaimOfTile", unfollowed := true, recurses := true, apart := false, narrowed := true }
def FnExactClaimOfTileUptoSaid : Prop := fnExactClaimOfTileUptoRow.holds Try.pinned (OpenSpec.upto fnExactClaimOfTileSpec)

/-- 'laws.FnExactClaimOfAlike', WHERE WHAT IT READS IS OF BULK AT MOST 1048576: true; the input reads as it did. -/
def fnExactClaimOfAlikeUptoRow : OpenClaim := { program := "ytopmhjmjmdohhaa", sum := "36605d99f138884b9d403f0cb61928b8ed43b65549ea62edf74e24b627f5beaa", func := "loop.example/g03402/laws.FnExactClaimOfAlike", spec := "fnExactClaimOfAlike", unfollowed := true, recurses := true, apart := false, narrowed := true }
def FnExactClaimOfAlikeUptoSaid : Prop := fnExactClaimOfAlikeUptoRow.holds Try.pinned (OpenSpec.upto fnExactClaimOfAlikeSpec)

/-- 'laws.FnExactFormatClaim', WHERE WHAT IT READS IS OF BULK AT MOST 1048576: true; the input reads as it did. -/
def fnExactFormatClaimUptoRow : OpenClaim := { program := "ytopmhjmjmdohhaa", sum := "36605d99f138884b9d403f0cb61928b8ed43b65549ea62edf74e24b627f5beaa", func := "loop.example/g03402/laws.FnExactFormatClaim", spec := "fnExactFormatClaim", apart := false, narrowed := true }
def FnExactFormatClaimUptoSaid : Prop := fnExactFormatClaimUptoRow.holds Try.pinned (OpenSpec.upto fnExactFormatClaimSpec)

end Rows
end Go.Proofs.Ytopmhjmjmdohhaa
