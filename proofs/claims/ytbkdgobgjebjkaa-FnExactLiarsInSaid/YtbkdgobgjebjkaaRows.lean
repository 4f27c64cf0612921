/-
  No cell of these rows narrows 'for every input' (looked for: loops, veiled, ifaces, maps, wideKeys, modest, calm, conditions, laid).
  DERIVED. THE GIVEN ROWS OF THIS SEAT. 7 by the template 'for every input the law returns true; each argument reads behind the call as it read before'; 0 by the template 'total and deterministic' (their statements: YtbkdgobgjebjkaaTotals.lean).
  GIVEN WITH THE SEED: the statements are not yours to turn. If you find one false, say at which input.
  Laid BY PROGRAM, IN A SANDBOX (cutbox-rows.mjs): the forced cells as the released guide's own fill.sh prints them over the translation b0d9d3b800245eca… (all of the seat's roots in one cut). By AI agents, Wed Nov 11 2026. No macro, syntax, notation, axiom, sorry.
-/
import Derived.Test.YtbkdgobgjebjkaaChecked
import GoSem.Claim
import GoSem.ClaimJoined
import GoSem.ClaimMapViews
import Derived.JoinedTies
import Derived.KernelRfl
namespace Go.Proofs.Ytbkdgobgjebjkaa
/- THE CELL 'sum', in the pinned program and in every row, IS THE sha256 OF THE DUMP (.gsa) THAT YtbkdgobgjebjkaaProg.lean LOADS. Nothing in Lean hashes anything: it is a label: what it is worth is what the hold of that sum in a sandbox is worth. -/
noncomputable def Try.pinned : Pinned := { name := "ytbkdgobgjebjkaa", sum := "b0d9d3b800245eca1f8a5ebbbf108bfab317394a6c7d9a5e44128c09e8b55d98", checked := Try.checked }
namespace Rows
def none {H : Type} : Left H := { results := [], args := [] }

/-- 'laws.FnExactGoodPool': WHATEVER THE INPUT: true; the input reads as it did. -/
def fnExactGoodPoolSpec : ChangeSpec := { name := "fnExactGoodPool", fn := fun _ => fun
  | [d1, d2, d3] => { results := [.lit (.bool true)], args := [d1, d2, d3] }
  | _ => none }
def fnExactGoodPoolRow : OpenClaim := { program := "ytbkdgobgjebjkaa", sum := "b0d9d3b800245eca1f8a5ebbbf108bfab317394a6c7d9a5e44128c09e8b55d98", func := "loop.example/g00564/laws.FnExactGoodPool", spec := "fnExactGoodPool", unfollowed := true, recurses := true, apart := false }
def FnExactGoodPoolSaid : Prop := fnExactGoodPoolRow.holds Try.pinned (OpenSpec.ofChange fnExactGoodPoolSpec)

/-- ITS FALSE NEIGHBOUR: 'it returns false'. Refute it at one input. -/
def fnExactGoodPoolWrong : ChangeSpec := { name := "fnExactGoodPool", fn := fun _ => fun
  | [d1, d2, d3] => { results := [.lit (.bool false)], args := [d1, d2, d3] }
  | _ => none }
def FnExactGoodPoolWrongFalsely : Prop := fnExactGoodPoolRow.holds Try.pinned (OpenSpec.ofChange fnExactGoodPoolWrong)

/-- 'laws.FnExactLiarsIn': WHATEVER THE INPUT: true; the input reads as it did. -/
def fnExactLiarsInSpec : ChangeSpec := { name := "fnExactLiarsIn", fn := fun _ => fun
  | [d1, d2, d3] => { results := [.lit (.bool true)], args := [d1, d2, d3] }
  | _ => none }
def fnExactLiarsInRow : OpenClaim := { program := "ytbkdgobgjebjkaa", sum := "b0d9d3b800245eca1f8a5ebbbf108bfab317394a6c7d9a5e44128c09e8b55d98", func := "loop.example/g00564/laws.FnExactLiarsIn", spec := "fnExactLiarsIn", unfollowed := true, recurses := true, apart := false }
def FnExactLiarsInSaid : Prop := fnExactLiarsInRow.holds Try.pinned (OpenSpec.ofChange fnExactLiarsInSpec)

/-- ITS FALSE NEIGHBOUR: 'it returns false'. Refute it at one input. -/
def fnExactLiarsInWrong : ChangeSpec := { name := "fnExactLiarsIn", fn := fun _ => fun
  | [d1, d2, d3] => { results := [.lit (.bool false)], args := [d1, d2, d3] }
  | _ => none }
def FnExactLiarsInWrongFalsely : Prop := fnExactLiarsInRow.holds Try.pinned (OpenSpec.ofChange fnExactLiarsInWrong)

/-- 'laws.FnExactLatestIn': WHATEVER THE INPUT: true; the input reads as it did. -/
def fnExactLatestInSpec : ChangeSpec := { name := "fnExactLatestIn", fn := fun _ => fun
  | [d1, d2, d3] => { results := [.lit (.bool true)], args := [d1, d2, d3] }
  | _ => none }
def fnExactLatestInRow : OpenClaim := { program := "ytbkdgobgjebjkaa", sum := "b0d9d3b800245eca1f8a5ebbbf108bfab317394a6c7d9a5e44128c09e8b55d98", func := "loop.example/g00564/laws.FnExactLatestIn", spec := "fnExactLatestIn", unfollowed := true, recurses := true, apart := false }
def FnExactLatestInSaid : Prop := fnExactLatestInRow.holds Try.pinned (OpenSpec.ofChange fnExactLatestInSpec)

/-- ITS FALSE NEIGHBOUR: 'it returns false'. Refute it at one input. -/
def fnExactLatestInWrong : ChangeSpec := { name := "fnExactLatestIn", fn := fun _ => fun
  | [d1, d2, d3] => { results := [.lit (.bool false)], args := [d1, d2, d3] }
  | _ => none }
def FnExactLatestInWrongFalsely : Prop := fnExactLatestInRow.holds Try.pinned (OpenSpec.ofChange fnExactLatestInWrong)

/-- 'laws.FnExactWeightsIn': WHATEVER THE INPUT: true; the input reads as it did. -/
def fnExactWeightsInSpec : ChangeSpec := { name := "fnExactWeightsIn", fn := fun _ => fun
  | [d1, d2, d3] => { results := [.lit (.bool true)], args := [d1, d2, d3] }
  | _ => none }
def fnExactWeightsInRow : OpenClaim := { program := "ytbkdgobgjebjkaa", sum := "b0d9d3b800245eca1f8a5ebbbf108bfab317394a6c7d9a5e44128c09e8b55d98", func := "loop.example/g00564/laws.FnExactWeightsIn", spec := "fnExactWeightsIn", unfollowed := true, recurses := true, apart := false }
def FnExactWeightsInSaid : Prop := fnExactWeightsInRow.holds Try.pinned (OpenSpec.ofChange fnExactWeightsInSpec)

/-- ITS FALSE NEIGHBOUR: 'it returns false'. Refute it at one input. -/
def fnExactWeightsInWrong : ChangeSpec := { name := "fnExactWeightsIn", fn := fun _ => fun
  | [d1, d2, d3] => { results := [.lit (.bool false)], args := [d1, d2, d3] }
  | _ => none }
def FnExactWeightsInWrongFalsely : Prop := fnExactWeightsInRow.holds Try.pinned (OpenSpec.ofChange fnExactWeightsInWrong)

/-- 'laws.FnExactVotersFor': WHATEVER THE INPUT: true; the input reads as it did. -/
def fnExactVotersForSpec : ChangeSpec := { name := "fnExactVotersFor", fn := fun _ => fun
  | [d1, d2, d3, d4] => { results := [.lit (.bool true)], args := [d1, d2, d3, d4] }
  | _ => none }
def fnExactVotersForRow : OpenClaim := { program := "ytbkdgobgjebjkaa", sum := "b0d9d3b800245eca1f8a5ebbbf108bfab317394a6c7d9a5e44128c09e8b55d98", func := "loop.example/g00564/laws.FnExactVotersFor", spec := "fnExactVotersFor", unfollowed := true, recurses := true, apart := false }
def FnExactVotersForSaid : Prop := fnExactVotersForRow.holds Try.pinned (OpenSpec.ofChange fnExactVotersForSpec)

/-- ITS FALSE NEIGHBOUR: 'it returns false'. Refute it at one input. -/
def fnExactVotersForWrong : ChangeSpec := { name := "fnExactVotersFor", fn := fun _ => fun
  | [d1, d2, d3, d4] => { results := [.lit (.bool false)], args := [d1, d2, d3, d4] }
  | _ => none }
def FnExactVotersForWrongFalsely : Prop := fnExactVotersForRow.holds Try.pinned (OpenSpec.ofChange fnExactVotersForWrong)

/-- 'laws.FnExactBelowOf': WHATEVER THE INPUT: true; the input reads as it did. -/
def fnExactBelowOfSpec : ChangeSpec := { name := "fnExactBelowOf", fn := fun _ => fun
  | [d1, d2] => { results := [.lit (.bool true)], args := [d1, d2] }
  | _ => none }
def fnExactBelowOfRow : OpenClaim := { program := "ytbkdgobgjebjkaa", sum := "b0d9d3b800245eca1f8a5ebbbf108bfab317394a6c7d9a5e44128c09e8b55d98", func := "loop.example/g00564/laws.FnExactBelowOf", spec := "fnExactBelowOf", recurses := true, apart := false }
def FnExactBelowOfSaid : Prop := fnExactBelowOfRow.holds Try.pinned (OpenSpec.ofChange fnExactBelowOfSpec)

/-- ITS FALSE NEIGHBOUR: 'it returns false'. Refute it at one input. -/
def fnExactBelowOfWrong : ChangeSpec := { name := "fnExactBelowOf", fn := fun _ => fun
  | [d1, d2] => { results := [.lit (.bool false)], args := [d1, d2] }
  | _ => none }
def FnExactBelowOfWrongFalsely : Prop := fnExactBelowOfRow.holds Try.pinned (OpenSpec.ofChange fnExactBelowOfWrong)

/-- 'laws.FnOrder': WHATEVER THE INPUT: true; the input reads as it did. -/
def fnOrderSpec : ChangeSpec := { name := "fnOrder", fn := fun _ => fun
  | [d1, d2] => { results := [.lit (.bool true)], args := [d1, d2] }
  | _ => none }
def fnOrderRow : OpenClaim := { program := "ytbkdgobgjebjkaa", sum := "b0d9d3b800245eca1f8a5ebbbf108bfab317394a6c7d9a5e44128c09e8b55d98", func := "loop.example/g00564/laws.FnOrder", spec := "fnOrder", recurses := true, apart := false }
def FnOrderSaid : Prop := fnOrderRow.holds Try.pinned (OpenSpec.ofChange fnOrderSpec)

/-- ITS FALSE NEIGHBOUR: 'it returns false'. Refute it at one input. -/
def fnOrderWrong : ChangeSpec := { name := "fnOrder", fn := fun _ => fun
  | [d1, d2] => { results := [.lit (.bool false)], args := [d1, d2] }
  | _ => none }
def FnOrderWrongFalsely : Prop := fnOrderRow.holds Try.pinned (OpenSpec.ofChange fnOrderWrong)

/- THE SECOND FORM. 'bulk': how many values and letters a reading holds, each counted each time it is reached (what is shared counts as often as it is met; a slice's spare places count too). A statement '..UptoSaid' is the law's where the arguments, and the package variables that the reading takes, are together of bulk at most 1048576: NARROWER than '..Said'. Prove '..Said' where nothing that the law and all that it calls make is longer than what came in: it says more and counts as full. Else prove '..UptoSaid'. A law counts once. -/
mutual
def uptoBulk {H : Type} : DataW H → Nat
  | .lit (.string bytes) => bytes.length + 1
  | .lit _ => 1
  | .nil => 1
  | .ptr d => uptoBulk d + 1
  | .slice elems spare => uptoBulkAll elems + uptoBulkAll spare + 1
  | .agg parts => uptoBulkAll parts + 1
  | .iface _ d => uptoBulk d + 1
  | .map entries => uptoBulkEntries entries + 1
  | .held _ => 1
def uptoBulkAll {H : Type} : List (DataW H) → Nat
  | [] => 0
  | d :: r => uptoBulk d + uptoBulkAll r
def uptoBulkEntries {H : Type} : List (Lit × DataW H) → Nat
  | [] => 0
  | x :: r => uptoBulkEntry x + uptoBulkEntries r
def uptoBulkEntry {H : Type} : Lit × DataW H → Nat
  | (.string bytes, d) => bytes.length + uptoBulk d + 1
  | (_, d) => uptoBulk d + 1
 end
def uptoSmall : (H : Type) → List (DataW H) → Bool := fun _ ds => decide (uptoBulkAll ds ≤ 1048576)
def OpenSpec.upto (s : _root_.Go.ChangeSpec) : _root_.Go.OpenSpec := { _root_.Go.OpenSpec.ofChange s with cond := some uptoSmall }

/-- 'laws.FnExactGoodPool', WHERE WHAT IT READS IS OF BULK AT MOST 1048576: true; the input reads as it did. -/
def fnExactGoodPoolUptoRow : OpenClaim := { program := "ytbkdgobgjebjkaa", sum := "b0d9d3b800245eca1f8a5ebbbf108bfab317394a6c7d9a5e44128c09e8b55d98", func := "loop.example/g00564/laws.FnExactGoodPool", spec := "fnExactGoodPool", unfollowed := true, recurses := true, apart := false, narrowed := true }
def FnExactGoodPoolUptoSaid : Prop := fnExactGoodPoolUptoRow.holds Try.pinned (OpenSpec.upto fnExactGoodPoolSpec)

/-- 'laws.FnExactLiarsIn', WHERE WHAT IT READS IS OF BULK AT MOST 1048576: true; the input reads as it did. -/
def fnExactLiarsInUptoRow : OpenClaim := { program := "ytbkdgobgjebjkaa", sum := "b0d9d3b800245eca1f8a5ebbbf108bfab317394a6c7d9a5e44128c09e8b55d98", func := "loop.example/g00564/laws.FnExactLiarsIn", spec := "fnExactLiarsIn", unfollowed := true, recurses := true, apart := false, narrowed := true }
def FnExactLiarsInUptoSaid : Prop := fnExactLiarsInUptoRow.holds Try.pinned (OpenSpec.upto fnExactLiarsInSpec)

/-- 'laws.FnExactLatestIn', WHERE WHAT IT READS IS OF BULK AT MOST 1048576: true; the input reads as it did. -/
def fnExactLatestInUptoRow : OpenClaim := { program := "ytbkdgobgjebjkaa", sum := "b0d9d3b800245eca1f8a5ebbbf108bfab317394a6c7d9a5e44128c09e8b55d98", func := "loop.example/g00564/laws.FnExactLatestIn", spec := "fnExactLatestIn", unfollowed := true, recurses := true, apart := false, narrowed := true }
def FnExactLatestInUptoSaid : Prop := fnExactLatestInUptoRow.holds Try.pinned (OpenSpec.upto fnExactLatestInSpec)

/-- 'laws.FnExactWeightsIn', WHERE WHAT IT READS IS OF BULK AT MOST 1048576: true; the input reads as it did. -/
def fnExactWeightsInUptoRow : OpenClaim := { program := "ytbkdgobgjebjkaa", sum := "b0d9d3b800245eca1f8a5ebbbf108bfab317394a6c7d9a5e44128c09e8b55d98", func := "loop.example/g00564/laws.FnExactWeightsIn", spec := "fnExactWeightsIn", unfollowed := true, recurses := true, apart := false, narrowed := true }
def FnExactWeightsInUptoSaid : Prop := fnExactWeightsInUptoRow.holds Try.pinned (OpenSpec.upto fnExactWeightsInSpec)

/-- 'laws.FnExactVotersFor', WHERE WHAT IT READS IS OF BULK AT MOST 1048576: true; the input reads as it did. -/
def fnExactVotersForUptoRow : OpenClaim := { program := "ytbkdgobgjebjkaa", sum := "b0d9d3b800245eca1f8a5ebbbf108bfab317394a6c7d9a5e44128c09e8b55d98", func := "loop.example/g00564/laws.FnExactVotersFor", spec := "fnExactVotersFor", unfollowed := true, recurses := true, apart := false, narrowed := true }
def FnExactVotersForUptoSaid : Prop := fnExactVotersForUptoRow.holds Try.pinned (OpenSpec.upto fnExactVotersForSpec)

/-- 'laws.FnExactBelowOf', WHERE WHAT IT READS IS OF BULK AT MOST 1048576: true; the input reads as it did. -/
def fnExactBelowOfUptoRow : OpenClaim := { program := "ytbkdgobgjebjkaa", sum := "b0d9d3b800245eca1f8a5ebbbf108bfab317394a6c7d9a5e44128c09e8b55d98", func := "loop.example/g00564/laws.FnExactBelowOf", spec := "fnExactBelowOf", recurses := true, apart := false, narrowed := true }
def FnExactBelowOfUptoSaid : Prop := fnExactBelowOfUptoRow.holds Try.pinned (OpenSpec.upto fnExactBelowOfSpec)

/-- 'laws.FnOrder', WHERE WHAT IT READS IS OF BULK AT MOST 1048576: true; the input reads as it did. -/
def fnOrderUptoRow : OpenClaim := { program := "ytbkdgobgjebjkaa", sum := "b0d9d3b800245eca1f8a5ebbbf108bfab317394a6c7d9a5e44128c09e8b55d98", func := "loop.example/g00564/laws.FnOrder", spec := "fnOrder", recurses := true, apart := false, narrowed := true }
def FnOrderUptoSaid : Prop := fnOrderUptoRow.holds Try.pinned (OpenSpec.upto fnOrderSpec)

end Rows
end Go.Proofs.Ytbkdgobgjebjkaa
