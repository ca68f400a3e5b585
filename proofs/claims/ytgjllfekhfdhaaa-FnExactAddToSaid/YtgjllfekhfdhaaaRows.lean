/-
  No cell of these rows narrows 'for every input' (looked for: loops, veiled, ifaces, maps, wideKeys, modest, calm, conditions, laid).
  DERIVED. THE GIVEN ROWS OF THIS SEAT. 11 by the template 'for every input the law returns true; each argument reads behind the call as it read before'; 0 by the template 'total and deterministic' (their statements: YtgjllfekhfdhaaaTotals.lean).
  GIVEN WITH THE SEED: the statements are not yours to turn. If you find one false, say at which input.
  Laid BY PROGRAM, IN A SANDBOX (cutbox-rows.mjs): the forced cells as the released guide's own fill.sh prints them over the translation 0e4f7a6e6b71b96f… (all of the seat's roots in one cut). By AI agents, Wed Nov 11 2026. No macro, syntax, notation, axiom, sorry.
-/
import Derived.Test.YtgjllfekhfdhaaaChecked
import GoSem.Claim
import GoSem.ClaimJoined
import GoSem.ClaimMapViews
import Derived.JoinedTies
import Derived.KernelRfl
namespace Go.Proofs.Ytgjllfekhfdhaaa
/- THE CELL 'sum', in the pinned program and in every row, IS THE sha256 OF THE DUMP (.gsa) THAT YtgjllfekhfdhaaaProg.lean LOADS. Nothing in Lean hashes anything: it is a label: what it is worth is what the hold of that sum in a sandbox is worth. -/
noncomputable def Try.pinned : Pinned := { name := "ytgjllfekhfdhaaa", sum := "0e4f7a6e6b71b96f3cc6378034cbdf00415abe21f0baf64f1ae57707c340b633", checked := Try.checked }
namespace Rows
def none {H : Type} : Left H := { results := [], args := [] }

/-- 'laws.FnExactEqualClaims': WHATEVER THE INPUT: true; the input reads as it did. -/
def fnExactEqualClaimsSpec : ChangeSpec := { name := "fnExactEqualClaims", fn := fun _ => fun
  | [d1, d2] => { results := [.lit (.bool true)], args := [d1, d2] }
  | _ => none }
def fnExactEqualClaimsRow : OpenClaim := { program := "ytgjllfekhfdhaaa", sum := "0e4f7a6e6b71b96f3cc6378034cbdf00415abe21f0baf64f1ae57707c340b633", func := "loop.example/g03402/laws.FnExactEqualClaims", spec := "fnExactEqualClaims", apart := false }
def FnExactEqualClaimsSaid : Prop := fnExactEqualClaimsRow.holds Try.pinned (OpenSpec.ofChange fnExactEqualClaimsSpec)

/-- ITS FALSE NEIGHBOUR: 'it returns false'. Refute it at one input. -/
def fnExactEqualClaimsWrong : ChangeSpec := { name := "fnExactEqualClaims", fn := fun _ => fun
  | [d1, d2] => { results := [.lit (.bool false)], args := [d1, d2] }
  | _ => none }
def FnExactEqualClaimsWrongFalsely : Prop := fnExactEqualClaimsRow.holds Try.pinned (OpenSpec.ofChange fnExactEqualClaimsWrong)

/-- 'laws.FnExtremal': WHATEVER THE INPUT: true; the input reads as it did. -/
def fnExtremalSpec : ChangeSpec := { name := "fnExtremal", fn := fun _ => fun
  | [d] => { results := [.lit (.bool true)], args := [d] }
  | _ => none }
def fnExtremalRow : OpenClaim := { program := "ytgjllfekhfdhaaa", sum := "0e4f7a6e6b71b96f3cc6378034cbdf00415abe21f0baf64f1ae57707c340b633", func := "loop.example/g03402/laws.FnExtremal", spec := "fnExtremal", apart := false }
def FnExtremalSaid : Prop := fnExtremalRow.holds Try.pinned (OpenSpec.ofChange fnExtremalSpec)

/-- ITS FALSE NEIGHBOUR: 'it returns false'. Refute it at one input. -/
def fnExtremalWrong : ChangeSpec := { name := "fnExtremal", fn := fun _ => fun
  | [d] => { results := [.lit (.bool false)], args := [d] }
  | _ => none }
def FnExtremalWrongFalsely : Prop := fnExtremalRow.holds Try.pinned (OpenSpec.ofChange fnExtremalWrong)

/-- 'laws.FnExactClaimOfColors': WHATEVER THE INPUT: true; the input reads as it did. -/
def fnExactClaimOfColorsSpec : ChangeSpec := { name := "fnExactClaimOfColors", fn := fun _ => fun
  | [d] => { results := [.lit (.bool true)], args := [d] }
  | _ => none }
def fnExactClaimOfColorsRow : OpenClaim := { program := "ytgjllfekhfdhaaa", sum := "0e4f7a6e6b71b96f3cc6378034cbdf00415abe21f0baf64f1ae57707c340b633", func := "loop.example/g03402/laws.FnExactClaimOfColors", spec := "fnExactClaimOfColors", unfollowed := true, recurses := true, apart := false }
def FnExactClaimOfColorsSaid : Prop := fnExactClaimOfColorsRow.holds Try.pinned (OpenSpec.ofChange fnExactClaimOfColorsSpec)

/-- ITS FALSE NEIGHBOUR: 'it returns false'. Refute it at one input. -/
def fnExactClaimOfColorsWrong : ChangeSpec := { name := "fnExactClaimOfColors", fn := fun _ => fun
  | [d] => { results := [.lit (.bool false)], args := [d] }
  | _ => none }
def FnExactClaimOfColorsWrongFalsely : Prop := fnExactClaimOfColorsRow.holds Try.pinned (OpenSpec.ofChange fnExactClaimOfColorsWrong)

/-- 'laws.FnExactLargestClique': WHATEVER THE INPUT: true; the input reads as it did. -/
def fnExactLargestCliqueSpec : ChangeSpec := { name := "fnExactLargestClique", fn := fun _ => fun
  | [d1, d2] => { results := [.lit (.bool true)], args := [d1, d2] }
  | _ => none }
def fnExactLargestCliqueRow : OpenClaim := { program := "ytgjllfekhfdhaaa", sum := "0e4f7a6e6b71b96f3cc6378034cbdf00415abe21f0baf64f1ae57707c340b633", func := "loop.example/g03402/laws.FnExactLargestClique", spec := "fnExactLargestClique", unfollowed := true, recurses := true, apart := false }
def FnExactLargestCliqueSaid : Prop := fnExactLargestCliqueRow.holds Try.pinned (OpenSpec.ofChange fnExactLargestCliqueSpec)

/-- ITS FALSE NEIGHBOUR: 'it returns false'. Refute it at one input. -/
def fnExactLargestCliqueWrong : ChangeSpec := { name := "fnExactLargestClique", fn := fun _ => fun
  | [d1, d2] => { results := [.lit (.bool false)], args := [d1, d2] }
  | _ => none }
def FnExactLargestCliqueWrongFalsely : Prop := fnExactLargestCliqueRow.holds Try.pinned (OpenSpec.ofChange fnExactLargestCliqueWrong)

/-- 'laws.FnExactAddTo': WHATEVER THE INPUT: true; the input reads as it did. -/
def fnExactAddToSpec : ChangeSpec := { name := "fnExactAddTo", fn := fun _ => fun
  | [d1, d2] => { results := [.lit (.bool true)], args := [d1, d2] }
  | _ => none }
def fnExactAddToRow : OpenClaim := { program := "ytgjllfekhfdhaaa", sum := "0e4f7a6e6b71b96f3cc6378034cbdf00415abe21f0baf64f1ae57707c340b633", func := "loop.example/g03402/laws.FnExactAddTo", spec := "fnExactAddTo", apart := false }
def FnExactAddToSaid : Prop := fnExactAddToRow.holds Try.pinned (OpenSpec.ofChange fnExactAddToSpec)

/-- ITS FALSE NEIGHBOUR: 'it returns false'. Refute it at one input. -/
def fnExactAddToWrong : ChangeSpec := { name := "fnExactAddTo", fn := fun _ => fun
  | [d1, d2] => { results := [.lit (.bool false)], args := [d1, d2] }
  | _ => none }
def FnExactAddToWrongFalsely : Prop := fnExactAddToRow.holds Try.pinned (OpenSpec.ofChange fnExactAddToWrong)

/-- 'laws.FnExactPairLine': WHATEVER THE INPUT: true; the input reads as it did. -/
def fnExactPairLineSpec : ChangeSpec := { name := "fnExactPairLine", fn := fun _ => fun
  | [d1, d2, d3] => { results := [.lit (.bool true)], args := [d1, d2, d3] }
  | _ => none }
def fnExactPairLineRow : OpenClaim := { program := "ytgjllfekhfdhaaa", sum := "0e4f7a6e6b71b96f3cc6378034cbdf00415abe21f0baf64f1ae57707c340b633", func := "loop.example/g03402/laws.FnExactPairLine", spec := "fnExactPairLine", apart := false }
def FnExactPairLineSaid : Prop := fnExactPairLineRow.holds Try.pinned (OpenSpec.ofChange fnExactPairLineSpec)

/-- ITS FALSE NEIGHBOUR: 'it returns false'. Refute it at one input. -/
def fnExactPairLineWrong : ChangeSpec := { name := "fnExactPairLine", fn := fun _ => fun
  | [d1, d2, d3] => { results := [.lit (.bool false)], args := [d1, d2, d3] }
  | _ => none }
def FnExactPairLineWrongFalsely : Prop := fnExactPairLineRow.holds Try.pinned (OpenSpec.ofChange fnExactPairLineWrong)

/-- 'laws.FnExactExtremalLine': WHATEVER THE INPUT: true; the input reads as it did. -/
def fnExactExtremalLineSpec : ChangeSpec := { name := "fnExactExtremalLine", fn := fun _ => fun
  | [d] => { results := [.lit (.bool true)], args := [d] }
  | _ => none }
def fnExactExtremalLineRow : OpenClaim := { program := "ytgjllfekhfdhaaa", sum := "0e4f7a6e6b71b96f3cc6378034cbdf00415abe21f0baf64f1ae57707c340b633", func := "loop.example/g03402/laws.FnExactExtremalLine", spec := "fnExactExtremalLine", unfollowed := true, recurses := true, apart := false }
def FnExactExtremalLineSaid : Prop := fnExactExtremalLineRow.holds Try.pinned (OpenSpec.ofChange fnExactExtremalLineSpec)

/-- ITS FALSE NEIGHBOUR: 'it returns false'. Refute it at one input. -/
def fnExactExtremalLineWrong : ChangeSpec := { name := "fnExactExtremalLine", fn := fun _ => fun
  | [d] => { results := [.lit (.bool false)], args := [d] }
  | _ => none }
def FnExactExtremalLineWrongFalsely : Prop := fnExactExtremalLineRow.holds Try.pinned (OpenSpec.ofChange fnExactExtremalLineWrong)

/-- 'laws.FnCayley': WHATEVER THE INPUT: true; the input reads as it did. -/
def fnCayleySpec : ChangeSpec := { name := "fnCayley", fn := fun _ => fun
  | [d] => { results := [.lit (.bool true)], args := [d] }
  | _ => none }
def fnCayleyRow : OpenClaim := { program := "ytgjllfekhfdhaaa", sum := "0e4f7a6e6b71b96f3cc6378034cbdf00415abe21f0baf64f1ae57707c340b633", func := "loop.example/g03402/laws.FnCayley", spec := "fnCayley", unfollowed := true, recurses := true, apart := false }
def FnCayleySaid : Prop := fnCayleyRow.holds Try.pinned (OpenSpec.ofChange fnCayleySpec)

/-- ITS FALSE NEIGHBOUR: 'it returns false'. Refute it at one input. -/
def fnCayleyWrong : ChangeSpec := { name := "fnCayley", fn := fun _ => fun
  | [d] => { results := [.lit (.bool false)], args := [d] }
  | _ => none }
def FnCayleyWrongFalsely : Prop := fnCayleyRow.holds Try.pinned (OpenSpec.ofChange fnCayleyWrong)

/-- 'laws.FnExactCheckClaim': WHATEVER THE INPUT: true; the input reads as it did. -/
def fnExactCheckClaimSpec : ChangeSpec := { name := "fnExactCheckClaim", fn := fun _ => fun
  | [d] => { results := [.lit (.bool true)], args := [d] }
  | _ => none }
def fnExactCheckClaimRow : OpenClaim := { program := "ytgjllfekhfdhaaa", sum := "0e4f7a6e6b71b96f3cc6378034cbdf00415abe21f0baf64f1ae57707c340b633", func := "loop.example/g03402/laws.FnExactCheckClaim", spec := "fnExactCheckClaim", apart := false }
def FnExactCheckClaimSaid : Prop := fnExactCheckClaimRow.holds Try.pinned (OpenSpec.ofChange fnExactCheckClaimSpec)

/-- ITS FALSE NEIGHBOUR: 'it returns false'. Refute it at one input. -/
def fnExactCheckClaimWrong : ChangeSpec := { name := "fnExactCheckClaim", fn := fun _ => fun
  | [d] => { results := [.lit (.bool false)], args := [d] }
  | _ => none }
def FnExactCheckClaimWrongFalsely : Prop := fnExactCheckClaimRow.holds Try.pinned (OpenSpec.ofChange fnExactCheckClaimWrong)

/-- 'laws.FnExactSetLine': WHATEVER THE INPUT: true; the input reads as it did. -/
def fnExactSetLineSpec : ChangeSpec := { name := "fnExactSetLine", fn := fun _ => fun
  | [d1, d2] => { results := [.lit (.bool true)], args := [d1, d2] }
  | _ => none }
def fnExactSetLineRow : OpenClaim := { program := "ytgjllfekhfdhaaa", sum := "0e4f7a6e6b71b96f3cc6378034cbdf00415abe21f0baf64f1ae57707c340b633", func := "loop.example/g03402/laws.FnExactSetLine", spec := "fnExactSetLine", apart := false }
def FnExactSetLineSaid : Prop := fnExactSetLineRow.holds Try.pinned (OpenSpec.ofChange fnExactSetLineSpec)

/-- ITS FALSE NEIGHBOUR: 'it returns false'. Refute it at one input. -/
def fnExactSetLineWrong : ChangeSpec := { name := "fnExactSetLine", fn := fun _ => fun
  | [d1, d2] => { results := [.lit (.bool false)], args := [d1, d2] }
  | _ => none }
def FnExactSetLineWrongFalsely : Prop := fnExactSetLineRow.holds Try.pinned (OpenSpec.ofChange fnExactSetLineWrong)

/-- 'laws.FnExactTileLine': WHATEVER THE INPUT: true; the input reads as it did. -/
def fnExactTileLineSpec : ChangeSpec := { name := "fnExactTileLine", fn := fun _ => fun
  | [d1, d2] => { results := [.lit (.bool true)], args := [d1, d2] }
  | _ => none }
def fnExactTileLineRow : OpenClaim := { program := "ytgjllfekhfdhaaa", sum := "0e4f7a6e6b71b96f3cc6378034cbdf00415abe21f0baf64f1ae57707c340b633", func := "loop.example/g03402/laws.FnExactTileLine", spec := "fnExactTileLine", unfollowed := true, recurses := true, apart := false }
def FnExactTileLineSaid : Prop := fnExactTileLineRow.holds Try.pinned (OpenSpec.ofChange fnExactTileLineSpec)

/-- ITS FALSE NEIGHBOUR: 'it returns false'. Refute it at one input. -/
def fnExactTileLineWrong : ChangeSpec := { name := "fnExactTileLine", fn := fun _ => fun
  | [d1, d2] => { results := [.lit (.bool false)], args := [d1, d2] }
  | _ => none }
def FnExactTileLineWrongFalsely : Prop := fnExactTileLineRow.holds Try.pinned (OpenSpec.ofChange fnExactTileLineWrong)

/- THE SECOND FORM. 'bulk': how many values and letters a reading holds, each counted each time it is reached (what is shared counts as often as it is met; a slice's spare places count too). A statement '..UptoSaid' is the law's where the arguments, and the package variables that the reading takes, are together of bulk at most 1048576: NARROWER than '..Said'. Prove '..Said' where nothing that the law and all that it calls make is longer than what came in: it says more and counts as full. Else prove '..UptoSaid'. A law counts once. -/
mutual
def uptoBulk {H : Type} : DataW H → Nat
  | .lit (.string bytes) => bytes.length + 1
  | .lit _ => 1
  | .nil => 1
  | .ptr d => uptoBulk d + 1
  | .slice elems spare => uptoBulkAll elems + uptoBulkAll spare + 1
  | .agg parts => uptoBulkAll parts + 1
  | .iface _ d => uptoBulk d + 1
  | .map entries => uptoBulkEntries entries + 1
  | .held _ => 1
def uptoBulkAll {H : Type} : List (DataW H) → Nat
  | [] => 0
  | d :: r => uptoBulk d + uptoBulkAll r
def uptoBulkEntries {H : Type} : List (Lit × DataW H) → Nat
  | [] => 0
  | x :: r => uptoBulkEntry x + uptoBulkEntries r
def uptoBulkEntry {H : Type} : Lit × DataW H → Nat
  | (.string bytes, d) => bytes.length + uptoBulk d + 1
  | (_, d) => uptoBulk d + 1
 end
def uptoSmall : (H : Type) → List (DataW H) → Bool := fun _ ds => decide (uptoBulkAll ds ≤ 1048576)
def OpenSpec.upto (s : _root_.Go.ChangeSpec) : _root_.Go.OpenSpec := { _root_.Go.OpenSpec.ofChange s with cond := some uptoSmall }

/-- 'laws.FnExactEqualClaims', WHERE WHAT IT READS IS OF BULK AT MOST 1048576: true; the input reads as it did. -/
def fnExactEqualClaimsUptoRow : OpenClaim := { program := "ytgjllfekhfdhaaa", sum := "0e4f7a6e6b71b96f3cc6378034cbdf00415abe21f0baf64f1ae57707c340b633", func := "loop.example/g03402/laws.FnExactEqualClaims", spec := "fnExactEqualClaims", apart := false, narrowed := true }
def FnExactEqualClaimsUptoSaid : Prop := fnExactEqualClaimsUptoRow.holds Try.pinned (OpenSpec.upto fnExactEqualClaimsSpec)

/-- 'laws.FnExtremal', WHERE WHAT IT READS IS OF BULK AT MOST 1048576: true; the input reads as it did. -/
def fnExtremalUptoRow : OpenClaim := { program := "ytgjllfekhfdhaaa", sum := "0e4f7a6e6b71b96f3cc6378034cbdf00415abe21f0baf64f1ae57707c340b633", func := "loop.example/g03402/laws.FnExtremal", spec := "fnExtremal", apart := false, narrowed := true }
def FnExtremalUptoSaid : Prop := fnExtremalUptoRow.holds Try.pinned (OpenSpec.upto fnExtremalSpec)

/-- 'laws.FnExactClaimOfColors', WHERE WHAT IT READS IS OF BULK AT MOST 1048576: true; the input reads as it did. -/
def fnExactClaimOfColorsUptoRow : OpenClaim := { program := "ytgjllfekhfdhaaa", sum := "0e4f7a6e6b71b96f3cc6378034cbdf00415abe21f0baf64f1ae57707c340b633", func := "loop.example/g03402/laws.FnExactClaimOfColors", spec := "fnExactClaimOfColors", unfollowed := true, recurses := true, apart := false, narrowed := true }
def FnExactClaimOfColorsUptoSaid : Prop := fnExactClaimOfColorsUptoRow.holds Try.pinned (OpenSpec.upto fnExactClaimOfColorsSpec)

/-- 'laws.FnExactLargestClique', WHERE WHAT IT READS IS OF BULK AT MOST 1048576: true; the input reads as it did. -/
def fnExactLargestCliqueUptoRow : OpenClaim := { program := "ytgjllfekhfdhaaa", sum := "0e4f7a6e6b71b96f3cc6378034cbdf00415abe21f0baf64f1ae57707c340b633", func := "loop.example/g03402/laws.FnExactLargestClique", spec := "fnExactLargestClique", unfollowed := true, recurses := true, apart := false, narrowed := true }
def FnExactLargestCliqueUptoSaid : Prop := fnExactLargestCliqueUptoRow.holds Try.pinned (OpenSpec.upto fnExactLargestCliqueSpec)

/-- 'laws.FnExactAddTo', WHERE WHAT IT READS IS OF BULK AT MOST 1048576: true; the input reads as it did. -/
def fnExactAddToUptoRow : OpenClaim := { program := "ytgjllfekhfdhaaa", sum := "0e4f7a6e6b71b96f3cc6378034cbdf00415abe21f0baf64f1ae57707c340b633", func := "loop.example/g03402/laws.FnExactAddTo", spec := "fnExactAddTo", apart := false, narrowed := true }
def FnExactAddToUptoSaid : Prop := fnExactAddToUptoRow.holds Try.pinned (OpenSpec.upto fnExactAddToSpec)

/-- 'laws.FnExactPairLine', WHERE WHAT IT READS IS OF BULK AT MOST 1048576: true; the input reads as it did. -/
def fnExactPairLineUptoRow : OpenClaim := { program := "ytgjllfekhfdhaaa", sum := "0e4f7a6e6b71b96f3cc6378034cbdf00415abe21f0baf64f1ae57707c340b633", func := "loop.example/g03402/laws.FnExactPairLine", spec := "fnExactPairLine", apart := false, narrowed := true }
def FnExactPairLineUptoSaid : Prop := fnExactPairLineUptoRow.holds Try.pinned (OpenSpec.upto fnExactPairLineSpec)

/-- 'laws.FnExactExtremalLine', WHERE WHAT IT READS IS OF BULK AT MOST 1048576: true; the input reads as it did. -/
def fnExactExtremalLineUptoRow : OpenClaim := { program := "ytgjllfekhfdhaaa", sum := "0e4f7a6e6b71b96f3cc6378034cbdf00415abe21f0baf64f1ae57707c340b633", func := "loop.example/g03402/laws.FnExactExtremalLine", spec := "fnExactExtremalLine", unfollowed := true, recurses := true, apart := false, narrowed := true }
def FnExactExtremalLineUptoSaid : Prop := fnExactExtremalLineUptoRow.holds Try.pinned (OpenSpec.upto fnExactExtremalLineSpec)

/-- 'laws.FnCayley', WHERE WHAT IT READS IS OF BULK AT MOST 1048576: true; the input reads as it did. -/
def fnCayleyUptoRow : OpenClaim := { program := "ytgjllfekhfdhaaa", sum := "0e4f7a6e6b71b96f3cc6378034cbdf00415abe21f0baf64f1ae57707c340b633", func := "loop.example/g03402/laws.FnCayley", spec := "fnCayley", unfollowed := true, recurses := true, apart := false, narrowed := true }
def FnCayleyUptoSaid : Prop := fnCayleyUptoRow.holds Try.pinned (OpenSpec.upto fnCayleySpec)

/-- 'laws.FnExactCheckClaim', WHERE WHAT IT READS IS OF BULK AT MOST 1048576: true; the input reads as it did. -/
def fnExactCheckClaimUptoRow : OpenClaim := { program := "ytgjllfekhfdhaaa", sum := "0e4f7a6e6b71b96f3cc6378034cbdf00415abe21f0baf64f1ae57707c340b633", func := "loop.example/g03402/laws.FnExactCheckClaim", spec := "fnExactCheckClaim", apart := false, narrowed := true }
def FnExactCheckClaimUptoSaid : Prop := fnExactCheckClaimUptoRow.holds Try.pinned (OpenSpec.upto fnExactCheckClaimSpec)

/-- 'laws.FnExactSetLine', WHERE WHAT IT READS IS OF BULK AT MOST 1048576: true; the input reads as it did. -/
def fnExactSetLineUptoRow : OpenClaim := { program := "ytgjllfekhfdhaaa", sum := "0e4f7a6e6b71b96f3cc6378034cbdf00415abe21f0baf64f1ae57707c340b633", func := "loop.example/g03402/laws.FnExactSetLine", spec := "fnExactSetLine", apart := false, narrowed := true }
def FnExactSetLineUptoSaid : Prop := fnExactSetLineUptoRow.holds Try.pinned (OpenSpec.upto fnExactSetLineSpec)

/-- 'laws.FnExactTileLine', WHERE WHAT IT READS IS OF BULK AT MOST 1048576: true; the input reads as it did. -/
def fnExactTileLineUptoRow : OpenClaim := { program := "ytgjllfekhfdhaaa", sum := "0e4f7a6e6b71b96f3cc6378034cbdf00415abe21f0baf64f1ae57707c340b633", func := "loop.example/g03402/laws.FnExactTileLine", spec := "fnExactTileLine", unfollowed := true, recurses := true, apart := false, narrowed := true }
def FnExactTileLineUptoSaid : Prop := fnExactTileLineUptoRow.holds Try.pinned (OpenSpec.upto fnExactTileLineSpec)

end Rows
end Go.Proofs.Ytgjllfekhfdhaaa
