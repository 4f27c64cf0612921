/-
  No cell of these rows narrows 'for every input' (looked for: loops, veiled, ifaces, maps, wideKeys, modest, calm, conditions, laid).
  DERIVED. THE GIVEN ROWS OF THIS SEAT. 12 by the template 'for every input the law returns true; each argument reads behind the call as it read before'; 0 by the template 'total and deterministic' (their statements: YtcmjadnegoelhaaTotals.lean).
  GIVEN WITH THE SEED: the statements are not yours to turn. If you find one false, say at which input.
  Laid BY PROGRAM, IN A SANDBOX (cutbox-rows.mjs): the forced cells as the released guide's own fill.sh prints them over the translation ecc4fa98e6333cd1… (all of the seat's roots in one cut). By AI agents, Wed Nov 11 2026. No macro, syntax, notation, axiom, sorry.
-/
import Derived.Test.YtcmjadnegoelhaaChecked
import GoSem.Claim
import GoSem.ClaimJoined
import GoSem.ClaimMapViews
import Derived.JoinedTies
import Derived.KernelRfl
namespace Go.Proofs.Ytcmjadnegoelhaa
/- THE CELL 'sum', in the pinned program and in every row, IS THE sha256 OF THE DUMP (.gsa) THAT YtcmjadnegoelhaaProg.lean LOADS. Nothing in Lean hashes anything: it is a label: what it is worth is what the hold of that sum in a sandbox is worth. -/
noncomputable def Try.pinned : Pinned := { name := "ytcmjadnegoelhaa", sum := "ecc4fa98e6333cd1f1407683e3d7607f52dbc9625c4acc8d769f17c4f6a5c7b5", checked := Try.checked }
namespace Rows
def none {H : Type} : Left H := { results := [], args := [] }

/-- 'laws.FnExactConstants': WHATEVER THE INPUT: true; the input reads as it did. -/
def fnExactConstantsSpec : ChangeSpec := { name := "fnExactConstants", fn := fun _ => fun
  | [] => { results := [.lit (.bool true)], args := [] }
  | _ => none }
def fnExactConstantsRow : OpenClaim := { program := "ytcmjadnegoelhaa", sum := "ecc4fa98e6333cd1f1407683e3d7607f52dbc9625c4acc8d769f17c4f6a5c7b5", func := "loop.example/g00564/laws.FnExactConstants", spec := "fnExactConstants", apart := false }
def FnExactConstantsSaid : Prop := fnExactConstantsRow.holds Try.pinned (OpenSpec.ofChange fnExactConstantsSpec)

/-- ITS FALSE NEIGHBOUR: 'it returns false'. Refute it at one input. -/
def fnExactConstantsWrong : ChangeSpec := { name := "fnExactConstants", fn := fun _ => fun
  | [] => { results := [.lit (.bool false)], args := [] }
  | _ => none }
def FnExactConstantsWrongFalsely : Prop := fnExactConstantsRow.holds Try.pinned (OpenSpec.ofChange fnExactConstantsWrong)

/-- 'laws.FnExactSlotOf': WHATEVER THE INPUT: true; the input reads as it did. -/
def fnExactSlotOfSpec : ChangeSpec := { name := "fnExactSlotOf", fn := fun _ => fun
  | [d1, d2] => { results := [.lit (.bool true)], args := [d1, d2] }
  | _ => none }
def fnExactSlotOfRow : OpenClaim := { program := "ytcmjadnegoelhaa", sum := "ecc4fa98e6333cd1f1407683e3d7607f52dbc9625c4acc8d769f17c4f6a5c7b5", func := "loop.example/g00564/laws.FnExactSlotOf", spec := "fnExactSlotOf", apart := false }
def FnExactSlotOfSaid : Prop := fnExactSlotOfRow.holds Try.pinned (OpenSpec.ofChange fnExactSlotOfSpec)

/-- ITS FALSE NEIGHBOUR: 'it returns false'. Refute it at one input. -/
def fnExactSlotOfWrong : ChangeSpec := { name := "fnExactSlotOf", fn := fun _ => fun
  | [d1, d2] => { results := [.lit (.bool false)], args := [d1, d2] }
  | _ => none }
def FnExactSlotOfWrongFalsely : Prop := fnExactSlotOfRow.holds Try.pinned (OpenSpec.ofChange fnExactSlotOfWrong)

/-- 'laws.FnExactNextSeed': WHATEVER THE INPUT: true; the input reads as it did. -/
def fnExactNextSeedSpec : ChangeSpec := { name := "fnExactNextSeed", fn := fun _ => fun
  | [d] => { results := [.lit (.bool true)], args := [d] }
  | _ => none }
def fnExactNextSeedRow : OpenClaim := { program := "ytcmjadnegoelhaa", sum := "ecc4fa98e6333cd1f1407683e3d7607f52dbc9625c4acc8d769f17c4f6a5c7b5", func := "loop.example/g00564/laws.FnExactNextSeed", spec := "fnExactNextSeed", apart := false }
def FnExactNextSeedSaid : Prop := fnExactNextSeedRow.holds Try.pinned (OpenSpec.ofChange fnExactNextSeedSpec)

/-- ITS FALSE NEIGHBOUR: 'it returns false'. Refute it at one input. -/
def fnExactNextSeedWrong : ChangeSpec := { name := "fnExactNextSeed", fn := fun _ => fun
  | [d] => { results := [.lit (.bool false)], args := [d] }
  | _ => none }
def FnExactNextSeedWrongFalsely : Prop := fnExactNextSeedRow.holds Try.pinned (OpenSpec.ofChange fnExactNextSeedWrong)

/-- 'laws.FnExactStartOf': WHATEVER THE INPUT: true; the input reads as it did. -/
def fnExactStartOfSpec : ChangeSpec := { name := "fnExactStartOf", fn := fun _ => fun
  | [d1, d2, d3] => { results := [.lit (.bool true)], args := [d1, d2, d3] }
  | _ => none }
def fnExactStartOfRow : OpenClaim := { program := "ytcmjadnegoelhaa", sum := "ecc4fa98e6333cd1f1407683e3d7607f52dbc9625c4acc8d769f17c4f6a5c7b5", func := "loop.example/g00564/laws.FnExactStartOf", spec := "fnExactStartOf", apart := false }
def FnExactStartOfSaid : Prop := fnExactStartOfRow.holds Try.pinned (OpenSpec.ofChange fnExactStartOfSpec)

/-- ITS FALSE NEIGHBOUR: 'it returns false'. Refute it at one input. -/
def fnExactStartOfWrong : ChangeSpec := { name := "fnExactStartOf", fn := fun _ => fun
  | [d1, d2, d3] => { results := [.lit (.bool false)], args := [d1, d2, d3] }
  | _ => none }
def FnExactStartOfWrongFalsely : Prop := fnExactStartOfRow.holds Try.pinned (OpenSpec.ofChange fnExactStartOfWrong)

/-- 'laws.FnExactOfMask': WHATEVER THE INPUT: true; the input reads as it did. -/
def fnExactOfMaskSpec : ChangeSpec := { name := "fnExactOfMask", fn := fun _ => fun
  | [d] => { results := [.lit (.bool true)], args := [d] }
  | _ => none }
def fnExactOfMaskRow : OpenClaim := { program := "ytcmjadnegoelhaa", sum := "ecc4fa98e6333cd1f1407683e3d7607f52dbc9625c4acc8d769f17c4f6a5c7b5", func := "loop.example/g00564/laws.FnExactOfMask", spec := "fnExactOfMask", apart := false }
def FnExactOfMaskSaid : Prop := fnExactOfMaskRow.holds Try.pinned (OpenSpec.ofChange fnExactOfMaskSpec)

/-- ITS FALSE NEIGHBOUR: 'it returns false'. Refute it at one input. -/
def fnExactOfMaskWrong : ChangeSpec := { name := "fnExactOfMask", fn := fun _ => fun
  | [d] => { results := [.lit (.bool false)], args := [d] }
  | _ => none }
def FnExactOfMaskWrongFalsely : Prop := fnExactOfMaskRow.holds Try.pinned (OpenSpec.ofChange fnExactOfMaskWrong)

/-- 'laws.FnExactMaskOf': WHATEVER THE INPUT: true; the input reads as it did. -/
def fnExactMaskOfSpec : ChangeSpec := { name := "fnExactMaskOf", fn := fun _ => fun
  | [d] => { results := [.lit (.bool true)], args := [d] }
  | _ => none }
def fnExactMaskOfRow : OpenClaim := { program := "ytcmjadnegoelhaa", sum := "ecc4fa98e6333cd1f1407683e3d7607f52dbc9625c4acc8d769f17c4f6a5c7b5", func := "loop.example/g00564/laws.FnExactMaskOf", spec := "fnExactMaskOf", apart := false }
def FnExactMaskOfSaid : Prop := fnExactMaskOfRow.holds Try.pinned (OpenSpec.ofChange fnExactMaskOfSpec)

/-- ITS FALSE NEIGHBOUR: 'it returns false'. Refute it at one input. -/
def fnExactMaskOfWrong : ChangeSpec := { name := "fnExactMaskOf", fn := fun _ => fun
  | [d] => { results := [.lit (.bool false)], args := [d] }
  | _ => none }
def FnExactMaskOfWrongFalsely : Prop := fnExactMaskOfRow.holds Try.pinned (OpenSpec.ofChange fnExactMaskOfWrong)

/-- 'laws.FnClock': WHATEVER THE INPUT: true; the input reads as it did. -/
def fnClockSpec : ChangeSpec := { name := "fnClock", fn := fun _ => fun
  | [d1, d2] => { results := [.lit (.bool true)], args := [d1, d2] }
  | _ => none }
def fnClockRow : OpenClaim := { program := "ytcmjadnegoelhaa", sum := "ecc4fa98e6333cd1f1407683e3d7607f52dbc9625c4acc8d769f17c4f6a5c7b5", func := "loop.example/g00564/laws.FnClock", spec := "fnClock", apart := false }
def FnClockSaid : Prop := fnClockRow.holds Try.pinned (OpenSpec.ofChange fnClockSpec)

/-- ITS FALSE NEIGHBOUR: 'it returns false'. Refute it at one input. -/
def fnClockWrong : ChangeSpec := { name := "fnClock", fn := fun _ => fun
  | [d1, d2] => { results := [.lit (.bool false)], args := [d1, d2] }
  | _ => none }
def FnClockWrongFalsely : Prop := fnClockRow.holds Try.pinned (OpenSpec.ofChange fnClockWrong)

/-- 'laws.FnExactGoodTree': WHATEVER THE INPUT: true; the input reads as it did. -/
def fnExactGoodTreeSpec : ChangeSpec := { name := "fnExactGoodTree", fn := fun _ => fun
  | [d] => { results := [.lit (.bool true)], args := [d] }
  | _ => none }
def fnExactGoodTreeRow : OpenClaim := { program := "ytcmjadnegoelhaa", sum := "ecc4fa98e6333cd1f1407683e3d7607f52dbc9625c4acc8d769f17c4f6a5c7b5", func := "loop.example/g00564/laws.FnExactGoodTree", spec := "fnExactGoodTree", apart := false }
def FnExactGoodTreeSaid : Prop := fnExactGoodTreeRow.holds Try.pinned (OpenSpec.ofChange fnExactGoodTreeSpec)

/-- ITS FALSE NEIGHBOUR: 'it returns false'. Refute it at one input. -/
def fnExactGoodTreeWrong : ChangeSpec := { name := "fnExactGoodTree", fn := fun _ => fun
  | [d] => { results := [.lit (.bool false)], args := [d] }
  | _ => none }
def FnExactGoodTreeWrongFalsely : Prop := fnExactGoodTreeRow.holds Try.pinned (OpenSpec.ofChange fnExactGoodTreeWrong)

/-- 'laws.FnExactHeadAt': WHATEVER THE INPUT: true; the input reads as it did. -/
def fnExactHeadAtSpec : ChangeSpec := { name := "fnExactHeadAt", fn := fun _ => fun
  | [d1, d2, d3] => { results := [.lit (.bool true)], args := [d1, d2, d3] }
  | _ => none }
def fnExactHeadAtRow : OpenClaim := { program := "ytcmjadnegoelhaa", sum := "ecc4fa98e6333cd1f1407683e3d7607f52dbc9625c4acc8d769f17c4f6a5c7b5", func := "loop.example/g00564/laws.FnExactHeadAt", spec := "fnExactHeadAt", apart := false }
def FnExactHeadAtSaid : Prop := fnExactHeadAtRow.holds Try.pinned (OpenSpec.ofChange fnExactHeadAtSpec)

/-- ITS FALSE NEIGHBOUR: 'it returns false'. Refute it at one input. -/
def fnExactHeadAtWrong : ChangeSpec := { name := "fnExactHeadAt", fn := fun _ => fun
  | [d1, d2, d3] => { results := [.lit (.bool false)], args := [d1, d2, d3] }
  | _ => none }
def FnExactHeadAtWrongFalsely : Prop := fnExactHeadAtRow.holds Try.pinned (OpenSpec.ofChange fnExactHeadAtWrong)

/-- 'laws.FnExactInBoth': WHATEVER THE INPUT: true; the input reads as it did. -/
def fnExactInBothSpec : ChangeSpec := { name := "fnExactInBoth", fn := fun _ => fun
  | [d1, d2] => { results := [.lit (.bool true)], args := [d1, d2] }
  | _ => none }
def fnExactInBothRow : OpenClaim := { program := "ytcmjadnegoelhaa", sum := "ecc4fa98e6333cd1f1407683e3d7607f52dbc9625c4acc8d769f17c4f6a5c7b5", func := "loop.example/g00564/laws.FnExactInBoth", spec := "fnExactInBoth", apart := false }
def FnExactInBothSaid : Prop := fnExactInBothRow.holds Try.pinned (OpenSpec.ofChange fnExactInBothSpec)

/-- ITS FALSE NEIGHBOUR: 'it returns false'. Refute it at one input. -/
def fnExactInBothWrong : ChangeSpec := { name := "fnExactInBoth", fn := fun _ => fun
  | [d1, d2] => { results := [.lit (.bool false)], args := [d1, d2] }
  | _ => none }
def FnExactInBothWrongFalsely : Prop := fnExactInBothRow.holds Try.pinned (OpenSpec.ofChange fnExactInBothWrong)

/-- 'laws.FnExactDepthOf': WHATEVER THE INPUT: true; the input reads as it did. -/
def fnExactDepthOfSpec : ChangeSpec := { name := "fnExactDepthOf", fn := fun _ => fun
  | [d1, d2] => { results := [.lit (.bool true)], args := [d1, d2] }
  | _ => none }
def fnExactDepthOfRow : OpenClaim := { program := "ytcmjadnegoelhaa", sum := "ecc4fa98e6333cd1f1407683e3d7607f52dbc9625c4acc8d769f17c4f6a5c7b5", func := "loop.example/g00564/laws.FnExactDepthOf", spec := "fnExactDepthOf", recurses := true, apart := false }
def FnExactDepthOfSaid : Prop := fnExactDepthOfRow.holds Try.pinned (OpenSpec.ofChange fnExactDepthOfSpec)

/-- ITS FALSE NEIGHBOUR: 'it returns false'. Refute it at one input. -/
def fnExactDepthOfWrong : ChangeSpec := { name := "fnExactDepthOf", fn := fun _ => fun
  | [d1, d2] => { results := [.lit (.bool false)], args := [d1, d2] }
  | _ => none }
def FnExactDepthOfWrongFalsely : Prop := fnExactDepthOfRow.holds Try.pinned (OpenSpec.ofChange fnExactDepthOfWrong)

/-- 'laws.FnExactIsAbove': WHATEVER THE INPUT: true; the input reads as it did. -/
def fnExactIsAboveSpec : ChangeSpec := { name := "fnExactIsAbove", fn := fun _ => fun
  | [d1, d2, d3] => { results := [.lit (.bool true)], args := [d1, d2, d3] }
  | _ => none }
def fnExactIsAboveRow : OpenClaim := { program := "ytcmjadnegoelhaa", sum := "ecc4fa98e6333cd1f1407683e3d7607f52dbc9625c4acc8d769f17c4f6a5c7b5", func := "loop.example/g00564/laws.FnExactIsAbove", spec := "fnExactIsAbove", recurses := true, apart := false }
def FnExactIsAboveSaid : Prop := fnExactIsAboveRow.holds Try.pinned (OpenSpec.ofChange fnExactIsAboveSpec)

/-- ITS FALSE NEIGHBOUR: 'it returns false'. Refute it at one input. -/
def fnExactIsAboveWrong : ChangeSpec := { name := "fnExactIsAbove", fn := fun _ => fun
  | [d1, d2, d3] => { results := [.lit (.bool false)], args := [d1, d2, d3] }
  | _ => none }
def FnExactIsAboveWrongFalsely : Prop := fnExactIsAboveRow.holds Try.pinned (OpenSpec.ofChange fnExactIsAboveWrong)

/- THE SECOND FORM. 'bulk': how many values and letters a reading holds, each counted each time it is reached (what is shared counts as often as it is met; a slice's spare places count too). A statement '..UptoSaid' is the law's where the arguments, and the package variables that the reading takes, are together of bulk at most 1048576: NARROWER than '..Said'. Prove '..Said' where nothing that the law and all that it calls make is longer than what came in: it says more and counts as full. Else prove '..UptoSaid'. A law counts once. -/
mutual
def uptoBulk {H : Type} : DataW H → Nat
  | .lit (.string bytes) => bytes.length + 1
  | .lit _ => 1
  | .nil => 1
  | .ptr d => uptoBulk d + 1
  | .slice elems spare => uptoBulkAll elems + uptoBulkAll spare + 1
  | .agg parts => uptoBulkAll parts + 1
  | .iface _ d => uptoBulk d + 1
  | .map entries => uptoBulkEntries entries + 1
  | .held _ => 1
def uptoBulkAll {H : Type} : List (DataW H) → Nat
  | [] => 0
  | d :: r => uptoBulk d + uptoBulkAll r
def uptoBulkEntries {H : Type} : List (Lit × DataW H) → Nat
  | [] => 0
  | x :: r => uptoBulkEntry x + uptoBulkEntries r
def uptoBulkEntry {H : Type} : Lit × DataW H → Nat
  | (.string bytes, d) => bytes.length + uptoBulk d + 1
  | (_, d) => uptoBulk d + 1
 end
def uptoSmall : (H : Type) → List (DataW H) → Bool := fun _ ds => decide (uptoBulkAll ds ≤ 1048576)
def OpenSpec.upto (s : _root_.Go.ChangeSpec) : _root_.Go.OpenSpec := { _root_.Go.OpenSpec.ofChange s with cond := some uptoSmall }

/-- 'laws.FnExactConstants', WHERE WHAT IT READS IS OF BULK AT MOST 1048576: true; the input reads as it did. -/
def fnExactConstantsUptoRow : OpenClaim := { program := "ytcmjadnegoelhaa", sum := "ecc4fa98e6333cd1f1407683e3d7607f52dbc9625c4acc8d769f17c4f6a5c7b5", func := "loop.example/g00564/laws.FnExactConstants", spec := "fnExactConstants", apart := false, narrowed := true }
def FnExactConstantsUptoSaid : Prop := fnExactConstantsUptoRow.holds Try.pinned (OpenSpec.upto fnExactConstantsSpec)

/-- 'laws.FnExactSlotOf', WHERE WHAT IT READS IS OF BULK AT MOST 1048576: true; the input reads as it did. -/
def fnExactSlotOfUptoRow : OpenClaim := { program := "ytcmjadnegoelhaa", sum := "ecc4fa98e6333cd1f1407683e3d7607f52dbc9625c4acc8d769f17c4f6a5c7b5", func := "loop.example/g00564/laws.FnExactSlotOf", spec := "fnExactSlotOf", apart := false, narrowed := true }
def FnExactSlotOfUptoSaid : Prop := fnExactSlotOfUptoRow.holds Try.pinned (OpenSpec.upto fnExactSlotOfSpec)

/-- 'laws.FnExactNextSeed', WHERE WHAT IT READS IS OF BULK AT MOST 1048576: true; the input reads as it did. -/
def fnExactNextSeedUptoRow : OpenClaim := { program := "ytcmjadnegoelhaa", sum := "ecc4fa98e6333cd1f1407683e3d7607f52dbc9625c4acc8d769f17c4f6a5c7b5", func := "loop.example/g00564/laws.FnExactNextSeed", spec := "fnExactNextSeed", apart := false, narrowed := true }
def FnExactNextSeedUptoSaid : Prop := fnExactNextSeedUptoRow.holds Try.pinned (OpenSpec.upto fnExactNextSeedSpec)

/-- 'laws.FnExactStartOf', WHERE WHAT IT READS IS OF BULK AT MOST 1048576: true; the input reads as it did. -/
def fnExactStartOfUptoRow : OpenClaim := { program := "ytcmjadnegoelhaa", sum := "ecc4fa98e6333cd1f1407683e3d7607f52dbc9625c4acc8d769f17c4f6a5c7b5", func := "loop.example/g00564/laws.FnExactStartOf", spec := "fnExactStartOf", apart := false, narrowed := true }
def FnExactStartOfUptoSaid : Prop := fnExactStartOfUptoRow.holds Try.pinned (OpenSpec.upto fnExactStartOfSpec)

/-- 'laws.FnExactOfMask', WHERE WHAT IT READS IS OF BULK AT MOST 1048576: true; the input reads as it did. -/
def fnExactOfMaskUptoRow : OpenClaim := { program := "ytcmjadnegoelhaa", sum := "ecc4fa98e6333cd1f1407683e3d7607f52dbc9625c4acc8d769f17c4f6a5c7b5", func := "loop.example/g00564/laws.FnExactOfMask", spec := "fnExactOfMask", apart := false, narrowed := true }
def FnExactOfMaskUptoSaid : Prop := fnExactOfMaskUptoRow.holds Try.pinned (OpenSpec.upto fnExactOfMaskSpec)

/-- 'laws.FnExactMaskOf', WHERE WHAT IT READS IS OF BULK AT MOST 1048576: true; the input reads as it did. -/
def fnExactMaskOfUptoRow : OpenClaim := { program := "ytcmjadnegoelhaa", sum := "ecc4fa98e6333cd1f1407683e3d7607f52dbc9625c4acc8d769f17c4f6a5c7b5", func := "loop.example/g00564/laws.FnExactMaskOf", spec := "fnExactMaskOf", apart := false, narrowed := true }
def FnExactMaskOfUptoSaid : Prop := fnExactMaskOfUptoRow.holds Try.pinned (OpenSpec.upto fnExactMaskOfSpec)

/-- 'laws.FnClock', WHERE WHAT IT READS IS OF BULK AT MOST 1048576: true; the input reads as it did. -/
def fnClockUptoRow : OpenClaim := { program := "ytcmjadnegoelhaa", sum := "ecc4fa98e6333cd1f1407683e3d7607f52dbc9625c4acc8d769f17c4f6a5c7b5", func := "loop.example/g00564/laws.FnClock", spec := "fnClock", apart := false, narrowed := true }
def FnClockUptoSaid : Prop := fnClockUptoRow.holds Try.pinned (OpenSpec.upto fnClockSpec)

/-- 'laws.FnExactGoodTree', WHERE WHAT IT READS IS OF BULK AT MOST 1048576: true; the input reads as it did. -/
def fnExactGoodTreeUptoRow : OpenClaim := { program := "ytcmjadnegoelhaa", sum := "ecc4fa98e6333cd1f1407683e3d7607f52dbc9625c4acc8d769f17c4f6a5c7b5", func := "loop.example/g00564/laws.FnExactGoodTree", spec := "fnExactGoodTree", apart := false, narrowed := true }
def FnExactGoodTreeUptoSaid : Prop := fnExactGoodTreeUptoRow.holds Try.pinned (OpenSpec.upto fnExactGoodTreeSpec)

/-- 'laws.FnExactHeadAt', WHERE WHAT IT READS IS OF BULK AT MOST 1048576: true; the input reads as it did. -/
def fnExactHeadAtUptoRow : OpenClaim := { program := "ytcmjadnegoelhaa", sum := "ecc4fa98e6333cd1f1407683e3d7607f52dbc9625c4acc8d769f17c4f6a5c7b5", func := "loop.example/g00564/laws.FnExactHeadAt", spec := "fnExactHeadAt", apart := false, narrowed := true }
def FnExactHeadAtUptoSaid : Prop := fnExactHeadAtUptoRow.holds Try.pinned (OpenSpec.upto fnExactHeadAtSpec)

/-- 'laws.FnExactInBoth', WHERE WHAT IT READS IS OF BULK AT MOST 1048576: true; the input reads as it did. -/
def fnExactInBothUptoRow : OpenClaim := { program := "ytcmjadnegoelhaa", sum := "ecc4fa98e6333cd1f1407683e3d7607f52dbc9625c4acc8d769f17c4f6a5c7b5", func := "loop.example/g00564/laws.FnExactInBoth", spec := "fnExactInBoth", apart := false, narrowed := true }
def FnExactInBothUptoSaid : Prop := fnExactInBothUptoRow.holds Try.pinned (OpenSpec.upto fnExactInBothSpec)

/-- 'laws.FnExactDepthOf', WHERE WHAT IT READS IS OF BULK AT MOST 1048576: true; the input reads as it did. -/
def fnExactDepthOfUptoRow : OpenClaim := { program := "ytcmjadnegoelhaa", sum := "ecc4fa98e6333cd1f1407683e3d7607f52dbc9625c4acc8d769f17c4f6a5c7b5", func := "loop.example/g00564/laws.FnExactDepthOf", spec := "fnExactDepthOf", recurses := true, apart := false, narrowed := true }
def FnExactDepthOfUptoSaid : Prop := fnExactDepthOfUptoRow.holds Try.pinned (OpenSpec.upto fnExactDepthOfSpec)

/-- 'laws.FnExactIsAbove', WHERE WHAT IT READS IS OF BULK AT MOST 1048576: true; the input reads as it did. -/
def fnExactIsAboveUptoRow : OpenClaim := { program := "ytcmjadnegoelhaa", sum := "ecc4fa98e6333cd1f1407683e3d7607f52dbc9625c4acc8d769f17c4f6a5c7b5", func := "loop.example/g00564/laws.FnExactIsAbove", spec := "fnExactIsAbove", recurses := true, apart := false, narrowed := true }
def FnExactIsAboveUptoSaid : Prop := fnExactIsAboveUptoRow.holds Try.pinned (OpenSpec.upto fnExactIsAboveSpec)

end Rows
end Go.Proofs.Ytcmjadnegoelhaa
