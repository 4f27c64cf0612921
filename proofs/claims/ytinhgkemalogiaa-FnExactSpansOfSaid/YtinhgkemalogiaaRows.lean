/-
  No cell of these rows narrows 'for every input' (looked for: loops, veiled, ifaces, maps, wideKeys, modest, calm, conditions, laid).
  DERIVED. THE GIVEN ROWS OF THIS SEAT. 12 by the template 'for every input the law returns true; each argument reads behind the call as it read before'; 0 by the template 'total and deterministic' (their statements: YtinhgkemalogiaaTotals.lean).
  GIVEN WITH THE SEED: the statements are not yours to turn. If you find one false, say at which input.
  Laid BY PROGRAM, IN A SANDBOX (cutbox-rows.mjs): the forced cells as the released guide's own fill.sh prints them over the translation 8ca6d2b524648d62… (all of the seat's roots in one cut). By AI agents, Wed Nov 11 2026. No macro, syntax, notation, axiom, sorry.
-/
import Derived.Test.YtinhgkemalogiaaChecked
import GoSem.Claim
import GoSem.ClaimJoined
import GoSem.ClaimMapViews
import Derived.JoinedTies
import Derived.KernelRfl
namespace Go.Proofs.Ytinhgkemalogiaa
/- THE CELL 'sum', in the pinned program and in every row, IS THE sha256 OF THE DUMP (.gsa) THAT YtinhgkemalogiaaProg.lean LOADS. Nothing in Lean hashes anything: it is a label: what it is worth is what the hold of that sum in a sandbox is worth. -/
noncomputable def Try.pinned : Pinned := { name := "ytinhgkemalogiaa", sum := "8ca6d2b524648d6235b051feea02a65c3e234b45890569cadc3b774f4494374d", checked := Try.checked }
namespace Rows
def none {H : Type} : Left H := { results := [], args := [] }

/-- 'laws.FnExactAncestorOf': WHATEVER THE INPUT: true; the input reads as it did. -/
def fnExactAncestorOfSpec : ChangeSpec := { name := "fnExactAncestorOf", fn := fun _ => fun
  | [d1, d2, d3] => { results := [.lit (.bool true)], args := [d1, d2, d3] }
  | _ => none }
def fnExactAncestorOfRow : OpenClaim := { program := "ytinhgkemalogiaa", sum := "8ca6d2b524648d6235b051feea02a65c3e234b45890569cadc3b774f4494374d", func := "loop.example/g00564/laws.FnExactAncestorOf", spec := "fnExactAncestorOf", recurses := true, apart := false }
def FnExactAncestorOfSaid : Prop := fnExactAncestorOfRow.holds Try.pinned (OpenSpec.ofChange fnExactAncestorOfSpec)

/-- ITS FALSE NEIGHBOUR: 'it returns false'. Refute it at one input. -/
def fnExactAncestorOfWrong : ChangeSpec := { name := "fnExactAncestorOf", fn := fun _ => fun
  | [d1, d2, d3] => { results := [.lit (.bool false)], args := [d1, d2, d3] }
  | _ => none }
def FnExactAncestorOfWrongFalsely : Prop := fnExactAncestorOfRow.holds Try.pinned (OpenSpec.ofChange fnExactAncestorOfWrong)

/-- 'laws.FnExactMeetOf': WHATEVER THE INPUT: true; the input reads as it did. -/
def fnExactMeetOfSpec : ChangeSpec := { name := "fnExactMeetOf", fn := fun _ => fun
  | [d1, d2, d3] => { results := [.lit (.bool true)], args := [d1, d2, d3] }
  | _ => none }
def fnExactMeetOfRow : OpenClaim := { program := "ytinhgkemalogiaa", sum := "8ca6d2b524648d6235b051feea02a65c3e234b45890569cadc3b774f4494374d", func := "loop.example/g00564/laws.FnExactMeetOf", spec := "fnExactMeetOf", recurses := true, apart := false }
def FnExactMeetOfSaid : Prop := fnExactMeetOfRow.holds Try.pinned (OpenSpec.ofChange fnExactMeetOfSpec)

/-- ITS FALSE NEIGHBOUR: 'it returns false'. Refute it at one input. -/
def fnExactMeetOfWrong : ChangeSpec := { name := "fnExactMeetOf", fn := fun _ => fun
  | [d1, d2, d3] => { results := [.lit (.bool false)], args := [d1, d2, d3] }
  | _ => none }
def FnExactMeetOfWrongFalsely : Prop := fnExactMeetOfRow.holds Try.pinned (OpenSpec.ofChange fnExactMeetOfWrong)

/-- 'laws.FnExactMeetByTour': WHATEVER THE INPUT: true; the input reads as it did. -/
def fnExactMeetByTourSpec : ChangeSpec := { name := "fnExactMeetByTour", fn := fun _ => fun
  | [d1, d2, d3] => { results := [.lit (.bool true)], args := [d1, d2, d3] }
  | _ => none }
def fnExactMeetByTourRow : OpenClaim := { program := "ytinhgkemalogiaa", sum := "8ca6d2b524648d6235b051feea02a65c3e234b45890569cadc3b774f4494374d", func := "loop.example/g00564/laws.FnExactMeetByTour", spec := "fnExactMeetByTour", recurses := true, apart := false }
def FnExactMeetByTourSaid : Prop := fnExactMeetByTourRow.holds Try.pinned (OpenSpec.ofChange fnExactMeetByTourSpec)

/-- ITS FALSE NEIGHBOUR: 'it returns false'. Refute it at one input. -/
def fnExactMeetByTourWrong : ChangeSpec := { name := "fnExactMeetByTour", fn := fun _ => fun
  | [d1, d2, d3] => { results := [.lit (.bool false)], args := [d1, d2, d3] }
  | _ => none }
def FnExactMeetByTourWrongFalsely : Prop := fnExactMeetByTourRow.holds Try.pinned (OpenSpec.ofChange fnExactMeetByTourWrong)

/-- 'laws.FnExactChildrenOf': WHATEVER THE INPUT: true; the input reads as it did. -/
def fnExactChildrenOfSpec : ChangeSpec := { name := "fnExactChildrenOf", fn := fun _ => fun
  | [d1, d2] => { results := [.lit (.bool true)], args := [d1, d2] }
  | _ => none }
def fnExactChildrenOfRow : OpenClaim := { program := "ytinhgkemalogiaa", sum := "8ca6d2b524648d6235b051feea02a65c3e234b45890569cadc3b774f4494374d", func := "loop.example/g00564/laws.FnExactChildrenOf", spec := "fnExactChildrenOf", apart := false }
def FnExactChildrenOfSaid : Prop := fnExactChildrenOfRow.holds Try.pinned (OpenSpec.ofChange fnExactChildrenOfSpec)

/-- ITS FALSE NEIGHBOUR: 'it returns false'. Refute it at one input. -/
def fnExactChildrenOfWrong : ChangeSpec := { name := "fnExactChildrenOf", fn := fun _ => fun
  | [d1, d2] => { results := [.lit (.bool false)], args := [d1, d2] }
  | _ => none }
def FnExactChildrenOfWrongFalsely : Prop := fnExactChildrenOfRow.holds Try.pinned (OpenSpec.ofChange fnExactChildrenOfWrong)

/-- 'laws.FnExactWayTo': WHATEVER THE INPUT: true; the input reads as it did. -/
def fnExactWayToSpec : ChangeSpec := { name := "fnExactWayTo", fn := fun _ => fun
  | [d1, d2] => { results := [.lit (.bool true)], args := [d1, d2] }
  | _ => none }
def fnExactWayToRow : OpenClaim := { program := "ytinhgkemalogiaa", sum := "8ca6d2b524648d6235b051feea02a65c3e234b45890569cadc3b774f4494374d", func := "loop.example/g00564/laws.FnExactWayTo", spec := "fnExactWayTo", recurses := true, apart := false }
def FnExactWayToSaid : Prop := fnExactWayToRow.holds Try.pinned (OpenSpec.ofChange fnExactWayToSpec)

/-- ITS FALSE NEIGHBOUR: 'it returns false'. Refute it at one input. -/
def fnExactWayToWrong : ChangeSpec := { name := "fnExactWayTo", fn := fun _ => fun
  | [d1, d2] => { results := [.lit (.bool false)], args := [d1, d2] }
  | _ => none }
def FnExactWayToWrongFalsely : Prop := fnExactWayToRow.holds Try.pinned (OpenSpec.ofChange fnExactWayToWrong)

/-- 'laws.FnExactLeavesOf': WHATEVER THE INPUT: true; the input reads as it did. -/
def fnExactLeavesOfSpec : ChangeSpec := { name := "fnExactLeavesOf", fn := fun _ => fun
  | [d] => { results := [.lit (.bool true)], args := [d] }
  | _ => none }
def fnExactLeavesOfRow : OpenClaim := { program := "ytinhgkemalogiaa", sum := "8ca6d2b524648d6235b051feea02a65c3e234b45890569cadc3b774f4494374d", func := "loop.example/g00564/laws.FnExactLeavesOf", spec := "fnExactLeavesOf", apart := false }
def FnExactLeavesOfSaid : Prop := fnExactLeavesOfRow.holds Try.pinned (OpenSpec.ofChange fnExactLeavesOfSpec)

/-- ITS FALSE NEIGHBOUR: 'it returns false'. Refute it at one input. -/
def fnExactLeavesOfWrong : ChangeSpec := { name := "fnExactLeavesOf", fn := fun _ => fun
  | [d] => { results := [.lit (.bool false)], args := [d] }
  | _ => none }
def FnExactLeavesOfWrongFalsely : Prop := fnExactLeavesOfRow.holds Try.pinned (OpenSpec.ofChange fnExactLeavesOfWrong)

/-- 'laws.FnExactOrderOf': WHATEVER THE INPUT: true; the input reads as it did. -/
def fnExactOrderOfSpec : ChangeSpec := { name := "fnExactOrderOf", fn := fun _ => fun
  | [d] => { results := [.lit (.bool true)], args := [d] }
  | _ => none }
def fnExactOrderOfRow : OpenClaim := { program := "ytinhgkemalogiaa", sum := "8ca6d2b524648d6235b051feea02a65c3e234b45890569cadc3b774f4494374d", func := "loop.example/g00564/laws.FnExactOrderOf", spec := "fnExactOrderOf", recurses := true, apart := false }
def FnExactOrderOfSaid : Prop := fnExactOrderOfRow.holds Try.pinned (OpenSpec.ofChange fnExactOrderOfSpec)

/-- ITS FALSE NEIGHBOUR: 'it returns false'. Refute it at one input. -/
def fnExactOrderOfWrong : ChangeSpec := { name := "fnExactOrderOf", fn := fun _ => fun
  | [d] => { results := [.lit (.bool false)], args := [d] }
  | _ => none }
def FnExactOrderOfWrongFalsely : Prop := fnExactOrderOfRow.holds Try.pinned (OpenSpec.ofChange fnExactOrderOfWrong)

/-- 'laws.FnExactTourOf': WHATEVER THE INPUT: true; the input reads as it did. -/
def fnExactTourOfSpec : ChangeSpec := { name := "fnExactTourOf", fn := fun _ => fun
  | [d] => { results := [.lit (.bool true)], args := [d] }
  | _ => none }
def fnExactTourOfRow : OpenClaim := { program := "ytinhgkemalogiaa", sum := "8ca6d2b524648d6235b051feea02a65c3e234b45890569cadc3b774f4494374d", func := "loop.example/g00564/laws.FnExactTourOf", spec := "fnExactTourOf", recurses := true, apart := false }
def FnExactTourOfSaid : Prop := fnExactTourOfRow.holds Try.pinned (OpenSpec.ofChange fnExactTourOfSpec)

/-- ITS FALSE NEIGHBOUR: 'it returns false'. Refute it at one input. -/
def fnExactTourOfWrong : ChangeSpec := { name := "fnExactTourOf", fn := fun _ => fun
  | [d] => { results := [.lit (.bool false)], args := [d] }
  | _ => none }
def FnExactTourOfWrongFalsely : Prop := fnExactTourOfRow.holds Try.pinned (OpenSpec.ofChange fnExactTourOfWrong)

/-- 'laws.FnExactLeapsOf': WHATEVER THE INPUT: true; the input reads as it did. -/
def fnExactLeapsOfSpec : ChangeSpec := { name := "fnExactLeapsOf", fn := fun _ => fun
  | [d] => { results := [.lit (.bool true)], args := [d] }
  | _ => none }
def fnExactLeapsOfRow : OpenClaim := { program := "ytinhgkemalogiaa", sum := "8ca6d2b524648d6235b051feea02a65c3e234b45890569cadc3b774f4494374d", func := "loop.example/g00564/laws.FnExactLeapsOf", spec := "fnExactLeapsOf", recurses := true, apart := false }
def FnExactLeapsOfSaid : Prop := fnExactLeapsOfRow.holds Try.pinned (OpenSpec.ofChange fnExactLeapsOfSpec)

/-- ITS FALSE NEIGHBOUR: 'it returns false'. Refute it at one input. -/
def fnExactLeapsOfWrong : ChangeSpec := { name := "fnExactLeapsOf", fn := fun _ => fun
  | [d] => { results := [.lit (.bool false)], args := [d] }
  | _ => none }
def FnExactLeapsOfWrongFalsely : Prop := fnExactLeapsOfRow.holds Try.pinned (OpenSpec.ofChange fnExactLeapsOfWrong)

/-- 'laws.FnExactSpansOf': WHATEVER THE INPUT: true; the input reads as it did. -/
def fnExactSpansOfSpec : ChangeSpec := { name := "fnExactSpansOf", fn := fun _ => fun
  | [d] => { results := [.lit (.bool true)], args := [d] }
  | _ => none }
def fnExactSpansOfRow : OpenClaim := { program := "ytinhgkemalogiaa", sum := "8ca6d2b524648d6235b051feea02a65c3e234b45890569cadc3b774f4494374d", func := "loop.example/g00564/laws.FnExactSpansOf", spec := "fnExactSpansOf", recurses := true, apart := false }
def FnExactSpansOfSaid : Prop := fnExactSpansOfRow.holds Try.pinned (OpenSpec.ofChange fnExactSpansOfSpec)

/-- ITS FALSE NEIGHBOUR: 'it returns false'. Refute it at one input. -/
def fnExactSpansOfWrong : ChangeSpec := { name := "fnExactSpansOf", fn := fun _ => fun
  | [d] => { results := [.lit (.bool false)], args := [d] }
  | _ => none }
def FnExactSpansOfWrongFalsely : Prop := fnExactSpansOfRow.holds Try.pinned (OpenSpec.ofChange fnExactSpansOfWrong)

/-- 'laws.FnTree': WHATEVER THE INPUT: true; the input reads as it did. -/
def fnTreeSpec : ChangeSpec := { name := "fnTree", fn := fun _ => fun
  | [d1, d2] => { results := [.lit (.bool true)], args := [d1, d2] }
  | _ => none }
def fnTreeRow : OpenClaim := { program := "ytinhgkemalogiaa", sum := "8ca6d2b524648d6235b051feea02a65c3e234b45890569cadc3b774f4494374d", func := "loop.example/g00564/laws.FnTree", spec := "fnTree", recurses := true, apart := false }
def FnTreeSaid : Prop := fnTreeRow.holds Try.pinned (OpenSpec.ofChange fnTreeSpec)

/-- ITS FALSE NEIGHBOUR: 'it returns false'. Refute it at one input. -/
def fnTreeWrong : ChangeSpec := { name := "fnTree", fn := fun _ => fun
  | [d1, d2] => { results := [.lit (.bool false)], args := [d1, d2] }
  | _ => none }
def FnTreeWrongFalsely : Prop := fnTreeRow.holds Try.pinned (OpenSpec.ofChange fnTreeWrong)

/-- 'laws.FnLeaps': WHATEVER THE INPUT: true; the input reads as it did. -/
def fnLeapsSpec : ChangeSpec := { name := "fnLeaps", fn := fun _ => fun
  | [d1, d2] => { results := [.lit (.bool true)], args := [d1, d2] }
  | _ => none }
def fnLeapsRow : OpenClaim := { program := "ytinhgkemalogiaa", sum := "8ca6d2b524648d6235b051feea02a65c3e234b45890569cadc3b774f4494374d", func := "loop.example/g00564/laws.FnLeaps", spec := "fnLeaps", recurses := true, apart := false }
def FnLeapsSaid : Prop := fnLeapsRow.holds Try.pinned (OpenSpec.ofChange fnLeapsSpec)

/-- ITS FALSE NEIGHBOUR: 'it returns false'. Refute it at one input. -/
def fnLeapsWrong : ChangeSpec := { name := "fnLeaps", fn := fun _ => fun
  | [d1, d2] => { results := [.lit (.bool false)], args := [d1, d2] }
  | _ => none }
def FnLeapsWrongFalsely : Prop := fnLeapsRow.holds Try.pinned (OpenSpec.ofChange fnLeapsWrong)

/- THE SECOND FORM. 'bulk': how many values and letters a reading holds, each counted each time it is reached (what is shared counts as often as it is met; a slice's spare places count too). A statement '..UptoSaid' is the law's where the arguments, and the package variables that the reading takes, are together of bulk at most 1048576: NARROWER than '..Said'. Prove '..Said' where nothing that the law and all that it calls make is longer than what came in: it says more and counts as full. Else prove '..UptoSaid'. A law counts once. -/
mutual
def uptoBulk {H : Type} : DataW H → Nat
  | .lit (.string bytes) => bytes.length + 1
  | .lit _ => 1
  | .nil => 1
  | .ptr d => uptoBulk d + 1
  | .slice elems spare => uptoBulkAll elems + uptoBulkAll spare + 1
  | .agg parts => uptoBulkAll parts + 1
  | .iface _ d => uptoBulk d + 1
  | .map entries => uptoBulkEntries entries + 1
  | .held _ => 1
def uptoBulkAll {H : Type} : List (DataW H) → Nat
  | [] => 0
  | d :: r => uptoBulk d + uptoBulkAll r
def uptoBulkEntries {H : Type} : List (Lit × DataW H) → Nat
  | [] => 0
  | x :: r => uptoBulkEntry x + uptoBulkEntries r
def uptoBulkEntry {H : Type} : Lit × DataW H → Nat
  | (.string bytes, d) => bytes.length + uptoBulk d + 1
  | (_, d) => uptoBulk d + 1
 end
def uptoSmall : (H : Type) → List (DataW H) → Bool := fun _ ds => decide (uptoBulkAll ds ≤ 1048576)
def OpenSpec.upto (s : _root_.Go.ChangeSpec) : _root_.Go.OpenSpec := { _root_.Go.OpenSpec.ofChange s with cond := some uptoSmall }

/-- 'laws.FnExactAncestorOf', WHERE WHAT IT READS IS OF BULK AT MOST 1048576: true; the input reads as it did. -/
def fnExactAncestorOfUptoRow : OpenClaim := { program := "ytinhgkemalogiaa", sum := "8ca6d2b524648d6235b051feea02a65c3e234b45890569cadc3b774f4494374d", func := "loop.example/g00564/laws.FnExactAncestorOf", spec := "fnExactAncestorOf", recurses := true, apart := false, narrowed := true }
def FnExactAncestorOfUptoSaid : Prop := fnExactAncestorOfUptoRow.holds Try.pinned (OpenSpec.upto fnExactAncestorOfSpec)

/-- 'laws.FnExactMeetOf', WHERE WHAT IT READS IS OF BULK AT MOST 1048576: true; the input reads as it did. -/
def fnExactMeetOfUptoRow : OpenClaim := { program := "ytinhgkemalogiaa", sum := "8ca6d2b524648d6235b051feea02a65c3e234b45890569cadc3b774f4494374d", func := "loop.example/g00564/laws.FnExactMeetOf", spec := "fnExactMeetOf", recurses := true, apart := false, narrowed := true }
def FnExactMeetOfUptoSaid : Prop := fnExactMeetOfUptoRow.holds Try.pinned (OpenSpec.upto fnExactMeetOfSpec)

/-- 'laws.FnExactMeetByTour', WHERE WHAT IT READS IS OF BULK AT MOST 1048576: true; the input reads as it did. -/
def fnExactMeetByTourUptoRow : OpenClaim := { program := "ytinhgkemalogiaa", sum := "8ca6d2b524648d6235b051feea02a65c3e234b45890569cadc3b774f4494374d", func := "loop.example/g00564/laws.FnExactMeetByTour", spec := "fnExactMeetByTour", recurses := true, apart := false, narrowed := true }
def FnExactMeetByTourUptoSaid : Prop := fnExactMeetByTourUptoRow.holds Try.pinned (OpenSpec.upto fnExactMeetByTourSpec)

/-- 'laws.FnExactChildrenOf', WHERE WHAT IT READS IS OF BULK AT MOST 1048576: true; the input reads as it did. -/
def fnExactChildrenOfUptoRow : OpenClaim := { program := "ytinhgkemalogiaa", sum := "8ca6d2b524648d6235b051feea02a65c3e234b45890569cadc3b774f4494374d", func := "loop.example/g00564/laws.FnExactChildrenOf", spec := "fnExactChildrenOf", apart := false, narrowed := true }
def FnExactChildrenOfUptoSaid : Prop := fnExactChildrenOfUptoRow.holds Try.pinned (OpenSpec.upto fnExactChildrenOfSpec)

/-- 'laws.FnExactWayTo', WHERE WHAT IT READS IS OF BULK AT MOST 1048576: true; the input reads as it did. -/
def fnExactWayToUptoRow : OpenClaim := { program := "ytinhgkemalogiaa", sum := "8ca6d2b524648d6235b051feea02a65c3e234b45890569cadc3b774f4494374d", func := "loop.example/g00564/laws.FnExactWayTo", spec := "fnExactWayTo", recurses := true, apart := false, narrowed := true }
def FnExactWayToUptoSaid : Prop := fnExactWayToUptoRow.holds Try.pinned (OpenSpec.upto fnExactWayToSpec)

/-- 'laws.FnExactLeavesOf', WHERE WHAT IT READS IS OF BULK AT MOST 1048576: true; the input reads as it did. -/
def fnExactLeavesOfUptoRow : OpenClaim := { program := "ytinhgkemalogiaa", sum := "8ca6d2b524648d6235b051feea02a65c3e234b45890569cadc3b774f4494374d", func := "loop.example/g00564/laws.FnExactLeavesOf", spec := "fnExactLeavesOf", apart := false, narrowed := true }
def FnExactLeavesOfUptoSaid : Prop := fnExactLeavesOfUptoRow.holds Try.pinned (OpenSpec.upto fnExactLeavesOfSpec)

/-- 'laws.FnExactOrderOf', WHERE WHAT IT READS IS OF BULK AT MOST 1048576: true; the input reads as it did. -/
def fnExactOrderOfUptoRow : OpenClaim := { program := "ytinhgkemalogiaa", sum := "8ca6d2b524648d6235b051feea02a65c3e234b45890569cadc3b774f4494374d", func := "loop.example/g00564/laws.FnExactOrderOf", spec := "fnExactOrderOf", recurses := true, apart := false, narrowed := true }
def FnExactOrderOfUptoSaid : Prop := fnExactOrderOfUptoRow.holds Try.pinned (OpenSpec.upto fnExactOrderOfSpec)

/-- 'laws.FnExactTourOf', WHERE WHAT IT READS IS OF BULK AT MOST 1048576: true; the input reads as it did. -/
def fnExactTourOfUptoRow : OpenClaim := { program := "ytinhgkemalogiaa", sum := "8ca6d2b524648d6235b051feea02a65c3e234b45890569cadc3b774f4494374d", func := "loop.example/g00564/laws.FnExactTourOf", spec := "fnExactTourOf", recurses := true, apart := false, narrowed := true }
def FnExactTourOfUptoSaid : Prop := fnExactTourOfUptoRow.holds Try.pinned (OpenSpec.upto fnExactTourOfSpec)

/-- 'laws.FnExactLeapsOf', WHERE WHAT IT READS IS OF BULK AT MOST 1048576: true; the input reads as it did. -/
def fnExactLeapsOfUptoRow : OpenClaim := { program := "ytinhgkemalogiaa", sum := "8ca6d2b524648d6235b051feea02a65c3e234b45890569cadc3b774f4494374d", func := "loop.example/g00564/laws.FnExactLeapsOf", spec := "fnExactLeapsOf", recurses := true, apart := false, narrowed := true }
def FnExactLeapsOfUptoSaid : Prop := fnExactLeapsOfUptoRow.holds Try.pinned (OpenSpec.upto fnExactLeapsOfSpec)

/-- 'laws.FnExactSpansOf', WHERE WHAT IT READS IS OF BULK AT MOST 1048576: true; the input reads as it did. -/
def fnExactSpansOfUptoRow : OpenClaim := { program := "ytinhgkemalogiaa", sum := "8ca6d2b524648d6235b051feea02a65c3e234b45890569cadc3b774f4494374d", func := "loop.example/g00564/laws.FnExactSpansOf", spec := "fnExactSpansOf", recurses := true, apart := false, narrowed := true }
def FnExactSpansOfUptoSaid : Prop := fnExactSpansOfUptoRow.holds Try.pinned (OpenSpec.upto fnExactSpansOfSpec)

/-- 'laws.FnTree', WHERE WHAT IT READS IS OF BULK AT MOST 1048576: true; the input reads as it did. -/
def fnTreeUptoRow : OpenClaim := { program := "ytinhgkemalogiaa", sum := "8ca6d2b524648d6235b051feea02a65c3e234b45890569cadc3b774f4494374d", func := "loop.example/g00564/laws.FnTree", spec := "fnTree", recurses := true, apart := false, narrowed := true }
def FnTreeUptoSaid : Prop := fnTreeUptoRow.holds Try.pinned (OpenSpec.upto fnTreeSpec)

/-- 'laws.FnLeaps', WHERE WHAT IT READS IS OF BULK AT MOST 1048576: true; the input reads as it did. -/
def fnLeapsUptoRow : OpenClaim := { program := "ytinhgkemalogiaa", sum := "8ca6d2b524648d6235b051feea02a65c3e234b45890569cadc3b774f4494374d", func := "loop.example/g00564/laws.FnLeaps", spec := "fnLeaps", recurses := true, apart := false, narrowed := true }
def FnLeapsUptoSaid : Prop := fnLeapsUptoRow.holds Try.pinned (OpenSpec.upto fnLeapsSpec)

end Rows
end Go.Proofs.Ytinhgkemalogiaa
