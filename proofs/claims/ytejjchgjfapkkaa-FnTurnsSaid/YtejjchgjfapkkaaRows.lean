/-
  No cell of these rows narrows 'for every input' (looked for: loops, veiled, ifaces, maps, wideKeys, modest, calm, conditions, laid).
  DERIVED. THE GIVEN ROWS OF THIS SEAT. 12 by the template 'for every input the law returns true; each argument reads behind the call as it read before'; 0 by the template 'total and deterministic' (their statements: YtejjchgjfapkkaaTotals.lean).
  GIVEN WITH THE SEED: the statements are not yours to turn. If you find one false, say at which input.
  Laid BY PROGRAM, IN A SANDBOX (cutbox-rows.mjs): the forced cells as the released guide's own fill.sh prints them over the translation 34bcf491d0ef1fdf… (all of the seat's roots in one cut). By AI agents, Wed Nov 11 2026. No macro, syntax, notation, axiom, sorry.
-/
import Derived.Test.YtejjchgjfapkkaaChecked
import GoSem.Claim
import GoSem.ClaimJoined
import GoSem.ClaimMapViews
import Derived.JoinedTies
import Derived.KernelRfl
namespace Go.Proofs.Ytejjchgjfapkkaa
/- THE CELL 'sum', in the pinned program and in every row, IS THE sha256 OF THE DUMP (.gsa) THAT YtejjchgjfapkkaaProg.lean LOADS. Nothing in Lean hashes anything: it is a label: what it is worth is what the hold of that sum in a sandbox is worth. -/
noncomputable def Try.pinned : Pinned := { name := "ytejjchgjfapkkaa", sum := "34bcf491d0ef1fdf10919830d1455d96f4fafc286492a50c25d3b6dd98660b6d", checked := Try.checked }
namespace Rows
def none {H : Type} : Left H := { results := [], args := [] }

/-- 'laws.FnExactGoodStakes': WHATEVER THE INPUT: true; the input reads as it did. -/
def fnExactGoodStakesSpec : ChangeSpec := { name := "fnExactGoodStakes", fn := fun _ => fun
  | [d] => { results := [.lit (.bool true)], args := [d] }
  | _ => none }
def fnExactGoodStakesRow : OpenClaim := { program := "ytejjchgjfapkkaa", sum := "34bcf491d0ef1fdf10919830d1455d96f4fafc286492a50c25d3b6dd98660b6d", func := "loop.example/g00564/laws.FnExactGoodStakes", spec := "fnExactGoodStakes", unfollowed := true, recurses := true, apart := false }
def FnExactGoodStakesSaid : Prop := fnExactGoodStakesRow.holds Try.pinned (OpenSpec.ofChange fnExactGoodStakesSpec)

/-- ITS FALSE NEIGHBOUR: 'it returns false'. Refute it at one input. -/
def fnExactGoodStakesWrong : ChangeSpec := { name := "fnExactGoodStakes", fn := fun _ => fun
  | [d] => { results := [.lit (.bool false)], args := [d] }
  | _ => none }
def FnExactGoodStakesWrongFalsely : Prop := fnExactGoodStakesRow.holds Try.pinned (OpenSpec.ofChange fnExactGoodStakesWrong)

/-- 'laws.FnExactLotAt': WHATEVER THE INPUT: true; the input reads as it did. -/
def fnExactLotAtSpec : ChangeSpec := { name := "fnExactLotAt", fn := fun _ => fun
  | [d1, d2] => { results := [.lit (.bool true)], args := [d1, d2] }
  | _ => none }
def fnExactLotAtRow : OpenClaim := { program := "ytejjchgjfapkkaa", sum := "34bcf491d0ef1fdf10919830d1455d96f4fafc286492a50c25d3b6dd98660b6d", func := "loop.example/g00564/laws.FnExactLotAt", spec := "fnExactLotAt", unfollowed := true, recurses := true, apart := false }
def FnExactLotAtSaid : Prop := fnExactLotAtRow.holds Try.pinned (OpenSpec.ofChange fnExactLotAtSpec)

/-- ITS FALSE NEIGHBOUR: 'it returns false'. Refute it at one input. -/
def fnExactLotAtWrong : ChangeSpec := { name := "fnExactLotAt", fn := fun _ => fun
  | [d1, d2] => { results := [.lit (.bool false)], args := [d1, d2] }
  | _ => none }
def FnExactLotAtWrongFalsely : Prop := fnExactLotAtRow.holds Try.pinned (OpenSpec.ofChange fnExactLotAtWrong)

/-- 'laws.FnExactWeightOf': WHATEVER THE INPUT: true; the input reads as it did. -/
def fnExactWeightOfSpec : ChangeSpec := { name := "fnExactWeightOf", fn := fun _ => fun
  | [d1, d2] => { results := [.lit (.bool true)], args := [d1, d2] }
  | _ => none }
def fnExactWeightOfRow : OpenClaim := { program := "ytejjchgjfapkkaa", sum := "34bcf491d0ef1fdf10919830d1455d96f4fafc286492a50c25d3b6dd98660b6d", func := "loop.example/g00564/laws.FnExactWeightOf", spec := "fnExactWeightOf", unfollowed := true, recurses := true, apart := false }
def FnExactWeightOfSaid : Prop := fnExactWeightOfRow.holds Try.pinned (OpenSpec.ofChange fnExactWeightOfSpec)

/-- ITS FALSE NEIGHBOUR: 'it returns false'. Refute it at one input. -/
def fnExactWeightOfWrong : ChangeSpec := { name := "fnExactWeightOf", fn := fun _ => fun
  | [d1, d2] => { results := [.lit (.bool false)], args := [d1, d2] }
  | _ => none }
def FnExactWeightOfWrongFalsely : Prop := fnExactWeightOfRow.holds Try.pinned (OpenSpec.ofChange fnExactWeightOfWrong)

/-- 'laws.FnExactTurnOf': WHATEVER THE INPUT: true; the input reads as it did. -/
def fnExactTurnOfSpec : ChangeSpec := { name := "fnExactTurnOf", fn := fun _ => fun
  | [d1, d2, d3] => { results := [.lit (.bool true)], args := [d1, d2, d3] }
  | _ => none }
def fnExactTurnOfRow : OpenClaim := { program := "ytejjchgjfapkkaa", sum := "34bcf491d0ef1fdf10919830d1455d96f4fafc286492a50c25d3b6dd98660b6d", func := "loop.example/g00564/laws.FnExactTurnOf", spec := "fnExactTurnOf", unfollowed := true, recurses := true, apart := false }
def FnExactTurnOfSaid : Prop := fnExactTurnOfRow.holds Try.pinned (OpenSpec.ofChange fnExactTurnOfSpec)

/-- ITS FALSE NEIGHBOUR: 'it returns false'. Refute it at one input. -/
def fnExactTurnOfWrong : ChangeSpec := { name := "fnExactTurnOf", fn := fun _ => fun
  | [d1, d2, d3] => { results := [.lit (.bool false)], args := [d1, d2, d3] }
  | _ => none }
def FnExactTurnOfWrongFalsely : Prop := fnExactTurnOfRow.holds Try.pinned (OpenSpec.ofChange fnExactTurnOfWrong)

/-- 'laws.FnExactIsGreat': WHATEVER THE INPUT: true; the input reads as it did. -/
def fnExactIsGreatSpec : ChangeSpec := { name := "fnExactIsGreat", fn := fun _ => fun
  | [d1, d2] => { results := [.lit (.bool true)], args := [d1, d2] }
  | _ => none }
def fnExactIsGreatRow : OpenClaim := { program := "ytejjchgjfapkkaa", sum := "34bcf491d0ef1fdf10919830d1455d96f4fafc286492a50c25d3b6dd98660b6d", func := "loop.example/g00564/laws.FnExactIsGreat", spec := "fnExactIsGreat", unfollowed := true, recurses := true, apart := false }
def FnExactIsGreatSaid : Prop := fnExactIsGreatRow.holds Try.pinned (OpenSpec.ofChange fnExactIsGreatSpec)

/-- ITS FALSE NEIGHBOUR: 'it returns false'. Refute it at one input. -/
def fnExactIsGreatWrong : ChangeSpec := { name := "fnExactIsGreat", fn := fun _ => fun
  | [d1, d2] => { results := [.lit (.bool false)], args := [d1, d2] }
  | _ => none }
def FnExactIsGreatWrongFalsely : Prop := fnExactIsGreatRow.holds Try.pinned (OpenSpec.ofChange fnExactIsGreatWrong)

/-- 'laws.FnExactTurnsIn': WHATEVER THE INPUT: true; the input reads as it did. -/
def fnExactTurnsInSpec : ChangeSpec := { name := "fnExactTurnsIn", fn := fun _ => fun
  | [d1, d2, d3] => { results := [.lit (.bool true)], args := [d1, d2, d3] }
  | _ => none }
def fnExactTurnsInRow : OpenClaim := { program := "ytejjchgjfapkkaa", sum := "34bcf491d0ef1fdf10919830d1455d96f4fafc286492a50c25d3b6dd98660b6d", func := "loop.example/g00564/laws.FnExactTurnsIn", spec := "fnExactTurnsIn", unfollowed := true, recurses := true, apart := false }
def FnExactTurnsInSaid : Prop := fnExactTurnsInRow.holds Try.pinned (OpenSpec.ofChange fnExactTurnsInSpec)

/-- ITS FALSE NEIGHBOUR: 'it returns false'. Refute it at one input. -/
def fnExactTurnsInWrong : ChangeSpec := { name := "fnExactTurnsIn", fn := fun _ => fun
  | [d1, d2, d3] => { results := [.lit (.bool false)], args := [d1, d2, d3] }
  | _ => none }
def FnExactTurnsInWrongFalsely : Prop := fnExactTurnsInRow.holds Try.pinned (OpenSpec.ofChange fnExactTurnsInWrong)

/-- 'laws.FnExactSlotsUntil': WHATEVER THE INPUT: true; the input reads as it did. -/
def fnExactSlotsUntilSpec : ChangeSpec := { name := "fnExactSlotsUntil", fn := fun _ => fun
  | [d1, d2, d3] => { results := [.lit (.bool true)], args := [d1, d2, d3] }
  | _ => none }
def fnExactSlotsUntilRow : OpenClaim := { program := "ytejjchgjfapkkaa", sum := "34bcf491d0ef1fdf10919830d1455d96f4fafc286492a50c25d3b6dd98660b6d", func := "loop.example/g00564/laws.FnExactSlotsUntil", spec := "fnExactSlotsUntil", unfollowed := true, recurses := true, apart := false }
def FnExactSlotsUntilSaid : Prop := fnExactSlotsUntilRow.holds Try.pinned (OpenSpec.ofChange fnExactSlotsUntilSpec)

/-- ITS FALSE NEIGHBOUR: 'it returns false'. Refute it at one input. -/
def fnExactSlotsUntilWrong : ChangeSpec := { name := "fnExactSlotsUntil", fn := fun _ => fun
  | [d1, d2, d3] => { results := [.lit (.bool false)], args := [d1, d2, d3] }
  | _ => none }
def FnExactSlotsUntilWrongFalsely : Prop := fnExactSlotsUntilRow.holds Try.pinned (OpenSpec.ofChange fnExactSlotsUntilWrong)

/-- 'laws.FnExactLeastShared': WHATEVER THE INPUT: true; the input reads as it did. -/
def fnExactLeastSharedSpec : ChangeSpec := { name := "fnExactLeastShared", fn := fun _ => fun
  | [d] => { results := [.lit (.bool true)], args := [d] }
  | _ => none }
def fnExactLeastSharedRow : OpenClaim := { program := "ytejjchgjfapkkaa", sum := "34bcf491d0ef1fdf10919830d1455d96f4fafc286492a50c25d3b6dd98660b6d", func := "loop.example/g00564/laws.FnExactLeastShared", spec := "fnExactLeastShared", unfollowed := true, recurses := true, apart := false }
def FnExactLeastSharedSaid : Prop := fnExactLeastSharedRow.holds Try.pinned (OpenSpec.ofChange fnExactLeastSharedSpec)

/-- ITS FALSE NEIGHBOUR: 'it returns false'. Refute it at one input. -/
def fnExactLeastSharedWrong : ChangeSpec := { name := "fnExactLeastShared", fn := fun _ => fun
  | [d] => { results := [.lit (.bool false)], args := [d] }
  | _ => none }
def FnExactLeastSharedWrongFalsely : Prop := fnExactLeastSharedRow.holds Try.pinned (OpenSpec.ofChange fnExactLeastSharedWrong)

/-- 'laws.FnExactSmallestGreat': WHATEVER THE INPUT: true; the input reads as it did. -/
def fnExactSmallestGreatSpec : ChangeSpec := { name := "fnExactSmallestGreat", fn := fun _ => fun
  | [d] => { results := [.lit (.bool true)], args := [d] }
  | _ => none }
def fnExactSmallestGreatRow : OpenClaim := { program := "ytejjchgjfapkkaa", sum := "34bcf491d0ef1fdf10919830d1455d96f4fafc286492a50c25d3b6dd98660b6d", func := "loop.example/g00564/laws.FnExactSmallestGreat", spec := "fnExactSmallestGreat", unfollowed := true, recurses := true, apart := false }
def FnExactSmallestGreatSaid : Prop := fnExactSmallestGreatRow.holds Try.pinned (OpenSpec.ofChange fnExactSmallestGreatSpec)

/-- ITS FALSE NEIGHBOUR: 'it returns false'. Refute it at one input. -/
def fnExactSmallestGreatWrong : ChangeSpec := { name := "fnExactSmallestGreat", fn := fun _ => fun
  | [d] => { results := [.lit (.bool false)], args := [d] }
  | _ => none }
def FnExactSmallestGreatWrongFalsely : Prop := fnExactSmallestGreatRow.holds Try.pinned (OpenSpec.ofChange fnExactSmallestGreatWrong)

/-- 'laws.FnTurns': WHATEVER THE INPUT: true; the input reads as it did. -/
def fnTurnsSpec : ChangeSpec := { name := "fnTurns", fn := fun _ => fun
  | [d1, d2] => { results := [.lit (.bool true)], args := [d1, d2] }
  | _ => none }
def fnTurnsRow : OpenClaim := { program := "ytejjchgjfapkkaa", sum := "34bcf491d0ef1fdf10919830d1455d96f4fafc286492a50c25d3b6dd98660b6d", func := "loop.example/g00564/laws.FnTurns", spec := "fnTurns", unfollowed := true, recurses := true, apart := false }
def FnTurnsSaid : Prop := fnTurnsRow.holds Try.pinned (OpenSpec.ofChange fnTurnsSpec)

/-- ITS FALSE NEIGHBOUR: 'it returns false'. Refute it at one input. -/
def fnTurnsWrong : ChangeSpec := { name := "fnTurns", fn := fun _ => fun
  | [d1, d2] => { results := [.lit (.bool false)], args := [d1, d2] }
  | _ => none }
def FnTurnsWrongFalsely : Prop := fnTurnsRow.holds Try.pinned (OpenSpec.ofChange fnTurnsWrong)

/-- 'laws.FnWeights': WHATEVER THE INPUT: true; the input reads as it did. -/
def fnWeightsSpec : ChangeSpec := { name := "fnWeights", fn := fun _ => fun
  | [d1, d2] => { results := [.lit (.bool true)], args := [d1, d2] }
  | _ => none }
def fnWeightsRow : OpenClaim := { program := "ytejjchgjfapkkaa", sum := "34bcf491d0ef1fdf10919830d1455d96f4fafc286492a50c25d3b6dd98660b6d", func := "loop.example/g00564/laws.FnWeights", spec := "fnWeights", unfollowed := true, recurses := true, apart := false }
def FnWeightsSaid : Prop := fnWeightsRow.holds Try.pinned (OpenSpec.ofChange fnWeightsSpec)

/-- ITS FALSE NEIGHBOUR: 'it returns false'. Refute it at one input. -/
def fnWeightsWrong : ChangeSpec := { name := "fnWeights", fn := fun _ => fun
  | [d1, d2] => { results := [.lit (.bool false)], args := [d1, d2] }
  | _ => none }
def FnWeightsWrongFalsely : Prop := fnWeightsRow.holds Try.pinned (OpenSpec.ofChange fnWeightsWrong)

/-- 'laws.FnGreat': WHATEVER THE INPUT: true; the input reads as it did. -/
def fnGreatSpec : ChangeSpec := { name := "fnGreat", fn := fun _ => fun
  | [d1, d2] => { results := [.lit (.bool true)], args := [d1, d2] }
  | _ => none }
def fnGreatRow : OpenClaim := { program := "ytejjchgjfapkkaa", sum := "34bcf491d0ef1fdf10919830d1455d96f4fafc286492a50c25d3b6dd98660b6d", func := "loop.example/g00564/laws.FnGreat", spec := "fnGreat", unfollowed := true, recurses := true, apart := false }
def FnGreatSaid : Prop := fnGreatRow.holds Try.pinned (OpenSpec.ofChange fnGreatSpec)

/-- ITS FALSE NEIGHBOUR: 'it returns false'. Refute it at one input. -/
def fnGreatWrong : ChangeSpec := { name := "fnGreat", fn := fun _ => fun
  | [d1, d2] => { results := [.lit (.bool false)], args := [d1, d2] }
  | _ => none }
def FnGreatWrongFalsely : Prop := fnGreatRow.holds Try.pinned (OpenSpec.ofChange fnGreatWrong)

/- THE SECOND FORM. 'bulk': how many values and letters a reading holds, each counted each time it is reached (what is shared counts as often as it is met; a slice's spare places count too). A statement '..UptoSaid' is the law's where the arguments, and the package variables that the reading takes, are together of bulk at most 1048576: NARROWER than '..Said'. Prove '..Said' where nothing that the law and all that it calls make is longer than what came in: it says more and counts as full. Else prove '..UptoSaid'. A law counts once. -/
mutual
def uptoBulk {H : Type} : DataW H → Nat
  | .lit (.string bytes) => bytes.length + 1
  | .lit _ => 1
  | .nil => 1
  | .ptr d => uptoBulk d + 1
  | .slice elems spare => uptoBulkAll elems + uptoBulkAll spare + 1
  | .agg parts => uptoBulkAll parts + 1
  | .iface _ d => uptoBulk d + 1
  | .map entries => uptoBulkEntries entries + 1
  | .held _ => 1
def uptoBulkAll {H : Type} : List (DataW H) → Nat
  | [] => 0
  | d :: r => uptoBulk d + uptoBulkAll r
def uptoBulkEntries {H : Type} : List (Lit × DataW H) → Nat
  | [] => 0
  | x :: r => uptoBulkEntry x + uptoBulkEntries r
def uptoBulkEntry {H : Type} : Lit × DataW H → Nat
  | (.string bytes, d) => bytes.length + uptoBulk d + 1
  | (_, d) => uptoBulk d + 1
 end
def uptoSmall : (H : Type) → List (DataW H) → Bool := fun _ ds => decide (uptoBulkAll ds ≤ 1048576)
def OpenSpec.upto (s : _root_.Go.ChangeSpec) : _root_.Go.OpenSpec := { _root_.Go.OpenSpec.ofChange s with cond := some uptoSmall }

/-- 'laws.FnExactGoodStakes', WHERE WHAT IT READS IS OF BULK AT MOST 1048576: true; the input reads as it did. -/
def fnExactGoodStakesUptoRow : OpenClaim := { program := "ytejjchgjfapkkaa", sum := "34bcf491d0ef1fdf10919830d1455d96f4fafc286492a50c25d3b6dd98660b6d", func := "loop.example/g00564/laws.FnExactGoodStakes", spec := "fnExactGoodStakes", unfollowed := true, recurses := true, apart := false, narrowed := true }
def FnExactGoodStakesUptoSaid : Prop := fnExactGoodStakesUptoRow.holds Try.pinned (OpenSpec.upto fnExactGoodStakesSpec)

/-- 'laws.FnExactLotAt', WHERE WHAT IT READS IS OF BULK AT MOST 1048576: true; the input reads as it did. -/
def fnExactLotAtUptoRow : OpenClaim := { program := "ytejjchgjfapkkaa", sum := "34bcf491d0ef1fdf10919830d1455d96f4fafc286492a50c25d3b6dd98660b6d", func := "loop.example/g00564/laws.FnExactLotAt", spec := "fnExactLotAt", unfollowed := true, recurses := true, apart := false, narrowed := true }
def FnExactLotAtUptoSaid : Prop := fnExactLotAtUptoRow.holds Try.pinned (OpenSpec.upto fnExactLotAtSpec)

/-- 'laws.FnExactWeightOf', WHERE WHAT IT READS IS OF BULK AT MOST 1048576: true; the input reads as it did. -/
def fnExactWeightOfUptoRow : OpenClaim := { program := "ytejjchgjfapkkaa", sum := "34bcf491d0ef1fdf10919830d1455d96f4fafc286492a50c25d3b6dd98660b6d", func := "loop.example/g00564/laws.FnExactWeightOf", spec := "fnExactWeightOf", unfollowed := true, recurses := true, apart := false, narrowed := true }
def FnExactWeightOfUptoSaid : Prop := fnExactWeightOfUptoRow.holds Try.pinned (OpenSpec.upto fnExactWeightOfSpec)

/-- 'laws.FnExactTurnOf', WHERE WHAT IT READS IS OF BULK AT MOST 1048576: true; the input reads as it did. -/
def fnExactTurnOfUptoRow : OpenClaim := { program := "ytejjchgjfapkkaa", sum := "34bcf491d0ef1fdf10919830d1455d96f4fafc286492a50c25d3b6dd98660b6d", func := "loop.example/g00564/laws.FnExactTurnOf", spec := "fnExactTurnOf", unfollowed := true, recurses := true, apart := false, narrowed := true }
def FnExactTurnOfUptoSaid : Prop := fnExactTurnOfUptoRow.holds Try.pinned (OpenSpec.upto fnExactTurnOfSpec)

/-- 'laws.FnExactIsGreat', WHERE WHAT IT READS IS OF BULK AT MOST 1048576: true; the input reads as it did. -/
def fnExactIsGreatUptoRow : OpenClaim := { program := "ytejjchgjfapkkaa", sum := "34bcf491d0ef1fdf10919830d1455d96f4fafc286492a50c25d3b6dd98660b6d", func := "loop.example/g00564/laws.FnExactIsGreat", spec := "fnExactIsGreat", unfollowed := true, recurses := true, apart := false, narrowed := true }
def FnExactIsGreatUptoSaid : Prop := fnExactIsGreatUptoRow.holds Try.pinned (OpenSpec.upto fnExactIsGreatSpec)

/-- 'laws.FnExactTurnsIn', WHERE WHAT IT READS IS OF BULK AT MOST 1048576: true; the input reads as it did. -/
def fnExactTurnsInUptoRow : OpenClaim := { program := "ytejjchgjfapkkaa", sum := "34bcf491d0ef1fdf10919830d1455d96f4fafc286492a50c25d3b6dd98660b6d", func := "loop.example/g00564/laws.FnExactTurnsIn", spec := "fnExactTurnsIn", unfollowed := true, recurses := true, apart := false, narrowed := true }
def FnExactTurnsInUptoSaid : Prop := fnExactTurnsInUptoRow.holds Try.pinned (OpenSpec.upto fnExactTurnsInSpec)

/-- 'laws.FnExactSlotsUntil', WHERE WHAT IT READS IS OF BULK AT MOST 1048576: true; the input reads as it did. -/
def fnExactSlotsUntilUptoRow : OpenClaim := { program := "ytejjchgjfapkkaa", sum := "34bcf491d0ef1fdf10919830d1455d96f4fafc286492a50c25d3b6dd98660b6d", func := "loop.example/g00564/laws.FnExactSlotsUntil", spec := "fnExactSlotsUntil", unfollowed := true, recurses := true, apart := false, narrowed := true }
def FnExactSlotsUntilUptoSaid : Prop := fnExactSlotsUntilUptoRow.holds Try.pinned (OpenSpec.upto fnExactSlotsUntilSpec)

/-- 'laws.FnExactLeastShared', WHERE WHAT IT READS IS OF BULK AT MOST 1048576: true; the input reads as it did. -/
def fnExactLeastSharedUptoRow : OpenClaim := { program := "ytejjchgjfapkkaa", sum := "34bcf491d0ef1fdf10919830d1455d96f4fafc286492a50c25d3b6dd98660b6d", func := "loop.example/g00564/laws.FnExactLeastShared", spec := "fnExactLeastShared", unfollowed := true, recurses := true, apart := false, narrowed := true }
def FnExactLeastSharedUptoSaid : Prop := fnExactLeastSharedUptoRow.holds Try.pinned (OpenSpec.upto fnExactLeastSharedSpec)

/-- 'laws.FnExactSmallestGreat', WHERE WHAT IT READS IS OF BULK AT MOST 1048576: true; the input reads as it did. -/
def fnExactSmallestGreatUptoRow : OpenClaim := { program := "ytejjchgjfapkkaa", sum := "34bcf491d0ef1fdf10919830d1455d96f4fafc286492a50c25d3b6dd98660b6d", func := "loop.example/g00564/laws.FnExactSmallestGreat", spec := "fnExactSmallestGreat", unfollowed := true, recurses := true, apart := false, narrowed := true }
def FnExactSmallestGreatUptoSaid : Prop := fnExactSmallestGreatUptoRow.holds Try.pinned (OpenSpec.upto fnExactSmallestGreatSpec)

/-- 'laws.FnTurns', WHERE WHAT IT READS IS OF BULK AT MOST 1048576: true; the input reads as it did. -/
def fnTurnsUptoRow : OpenClaim := { program := "ytejjchgjfapkkaa", sum := "34bcf491d0ef1fdf10919830d1455d96f4fafc286492a50c25d3b6dd98660b6d", func := "loop.example/g00564/laws.FnTurns", spec := "fnTurns", unfollowed := true, recurses := true, apart := false, narrowed := true }
def FnTurnsUptoSaid : Prop := fnTurnsUptoRow.holds Try.pinned (OpenSpec.upto fnTurnsSpec)

/-- 'laws.FnWeights', WHERE WHAT IT READS IS OF BULK AT MOST 1048576: true; the input reads as it did. -/
def fnWeightsUptoRow : OpenClaim := { program := "ytejjchgjfapkkaa", sum := "34bcf491d0ef1fdf10919830d1455d96f4fafc286492a50c25d3b6dd98660b6d", func := "loop.example/g00564/laws.FnWeights", spec := "fnWeights", unfollowed := true, recurses := true, apart := false, narrowed := true }
def FnWeightsUptoSaid : Prop := fnWeightsUptoRow.holds Try.pinned (OpenSpec.upto fnWeightsSpec)

/-- 'laws.FnGreat', WHERE WHAT IT READS IS OF BULK AT MOST 1048576: true; the input reads as it did. -/
def fnGreatUptoRow : OpenClaim := { program := "ytejjchgjfapkkaa", sum := "34bcf491d0ef1fdf10919830d1455d96f4fafc286492a50c25d3b6dd98660b6d", func := "loop.example/g00564/laws.FnGreat", spec := "fnGreat", unfollowed := true, recurses := true, apart := false, narrowed := true }
def FnGreatUptoSaid : Prop := fnGreatUptoRow.holds Try.pinned (OpenSpec.upto fnGreatSpec)

end Rows
end Go.Proofs.Ytejjchgjfapkkaa
