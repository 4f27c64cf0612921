/-
  No cell of these rows narrows 'for every input' (looked for: loops, veiled, ifaces, maps, wideKeys, modest, calm, conditions, laid).
  DERIVED. THE GIVEN ROWS OF THIS SEAT. 12 by the template 'for every input the law returns true; each argument reads behind the call as it read before'; 0 by the template 'total and deterministic' (their statements: YtdjdkabblfccjaaTotals.lean).
  GIVEN WITH THE SEED: the statements are not yours to turn. If you find one false, say at which input.
  Laid BY PROGRAM, IN A SANDBOX (cutbox-rows.mjs): the forced cells as the released guide's own fill.sh prints them over the translation 9b91b2a1be73609c… (all of the seat's roots in one cut). By AI agents, Wed Nov 11 2026. No macro, syntax, notation, axiom, sorry.
-/
import Derived.Test.YtdjdkabblfccjaaChecked
import GoSem.Claim
import GoSem.ClaimJoined
import GoSem.ClaimMapViews
import Derived.JoinedTies
import Derived.KernelRfl
namespace Go.Proofs.Ytdjdkabblfccjaa
/- THE CELL 'sum', in the pinned program and in every row, IS THE sha256 OF THE DUMP (.gsa) THAT YtdjdkabblfccjaaProg.lean LOADS. Nothing in Lean hashes anything: it is a label: what it is worth is what the hold of that sum in a sandbox is worth. -/
noncomputable def Try.pinned : Pinned := { name := "ytdjdkabblfccjaa", sum := "9b91b2a1be73609c72078cf716cb0277140759ae3bcf60b8236c63481395b716", checked := Try.checked }
namespace Rows
def none {H : Type} : Left H := { results := [], args := [] }

/-- 'laws.FnExactGoodSums': WHATEVER THE INPUT: true; the input reads as it did. -/
def fnExactGoodSumsSpec : ChangeSpec := { name := "fnExactGoodSums", fn := fun _ => fun
  | [d] => { results := [.lit (.bool true)], args := [d] }
  | _ => none }
def fnExactGoodSumsRow : OpenClaim := { program := "ytdjdkabblfccjaa", sum := "9b91b2a1be73609c72078cf716cb0277140759ae3bcf60b8236c63481395b716", func := "loop.example/g00564/laws.FnExactGoodSums", spec := "fnExactGoodSums", apart := false }
def FnExactGoodSumsSaid : Prop := fnExactGoodSumsRow.holds Try.pinned (OpenSpec.ofChange fnExactGoodSumsSpec)

/-- ITS FALSE NEIGHBOUR: 'it returns false'. Refute it at one input. -/
def fnExactGoodSumsWrong : ChangeSpec := { name := "fnExactGoodSums", fn := fun _ => fun
  | [d] => { results := [.lit (.bool false)], args := [d] }
  | _ => none }
def FnExactGoodSumsWrongFalsely : Prop := fnExactGoodSumsRow.holds Try.pinned (OpenSpec.ofChange fnExactGoodSumsWrong)

/-- 'laws.FnExactBetweenOf': WHATEVER THE INPUT: true; the input reads as it did. -/
def fnExactBetweenOfSpec : ChangeSpec := { name := "fnExactBetweenOf", fn := fun _ => fun
  | [d1, d2, d3] => { results := [.lit (.bool true)], args := [d1, d2, d3] }
  | _ => none }
def fnExactBetweenOfRow : OpenClaim := { program := "ytdjdkabblfccjaa", sum := "9b91b2a1be73609c72078cf716cb0277140759ae3bcf60b8236c63481395b716", func := "loop.example/g00564/laws.FnExactBetweenOf", spec := "fnExactBetweenOf", apart := false }
def FnExactBetweenOfSaid : Prop := fnExactBetweenOfRow.holds Try.pinned (OpenSpec.ofChange fnExactBetweenOfSpec)

/-- ITS FALSE NEIGHBOUR: 'it returns false'. Refute it at one input. -/
def fnExactBetweenOfWrong : ChangeSpec := { name := "fnExactBetweenOf", fn := fun _ => fun
  | [d1, d2, d3] => { results := [.lit (.bool false)], args := [d1, d2, d3] }
  | _ => none }
def FnExactBetweenOfWrongFalsely : Prop := fnExactBetweenOfRow.holds Try.pinned (OpenSpec.ofChange fnExactBetweenOfWrong)

/-- 'laws.FnExactSumTo': WHATEVER THE INPUT: true; the input reads as it did. -/
def fnExactSumToSpec : ChangeSpec := { name := "fnExactSumTo", fn := fun _ => fun
  | [d1, d2] => { results := [.lit (.bool true)], args := [d1, d2] }
  | _ => none }
def fnExactSumToRow : OpenClaim := { program := "ytdjdkabblfccjaa", sum := "9b91b2a1be73609c72078cf716cb0277140759ae3bcf60b8236c63481395b716", func := "loop.example/g00564/laws.FnExactSumTo", spec := "fnExactSumTo", apart := false }
def FnExactSumToSaid : Prop := fnExactSumToRow.holds Try.pinned (OpenSpec.ofChange fnExactSumToSpec)

/-- ITS FALSE NEIGHBOUR: 'it returns false'. Refute it at one input. -/
def fnExactSumToWrong : ChangeSpec := { name := "fnExactSumTo", fn := fun _ => fun
  | [d1, d2] => { results := [.lit (.bool false)], args := [d1, d2] }
  | _ => none }
def FnExactSumToWrongFalsely : Prop := fnExactSumToRow.holds Try.pinned (OpenSpec.ofChange fnExactSumToWrong)

/-- 'laws.FnExactListOf': WHATEVER THE INPUT: true; the input reads as it did. -/
def fnExactListOfSpec : ChangeSpec := { name := "fnExactListOf", fn := fun _ => fun
  | [d] => { results := [.lit (.bool true)], args := [d] }
  | _ => none }
def fnExactListOfRow : OpenClaim := { program := "ytdjdkabblfccjaa", sum := "9b91b2a1be73609c72078cf716cb0277140759ae3bcf60b8236c63481395b716", func := "loop.example/g00564/laws.FnExactListOf", spec := "fnExactListOf", apart := false }
def FnExactListOfSaid : Prop := fnExactListOfRow.holds Try.pinned (OpenSpec.ofChange fnExactListOfSpec)

/-- ITS FALSE NEIGHBOUR: 'it returns false'. Refute it at one input. -/
def fnExactListOfWrong : ChangeSpec := { name := "fnExactListOf", fn := fun _ => fun
  | [d] => { results := [.lit (.bool false)], args := [d] }
  | _ => none }
def FnExactListOfWrongFalsely : Prop := fnExactListOfRow.holds Try.pinned (OpenSpec.ofChange fnExactListOfWrong)

/-- 'laws.FnExactFirstAbove': WHATEVER THE INPUT: true; the input reads as it did. -/
def fnExactFirstAboveSpec : ChangeSpec := { name := "fnExactFirstAbove", fn := fun _ => fun
  | [d1, d2] => { results := [.lit (.bool true)], args := [d1, d2] }
  | _ => none }
def fnExactFirstAboveRow : OpenClaim := { program := "ytdjdkabblfccjaa", sum := "9b91b2a1be73609c72078cf716cb0277140759ae3bcf60b8236c63481395b716", func := "loop.example/g00564/laws.FnExactFirstAbove", spec := "fnExactFirstAbove", apart := false }
def FnExactFirstAboveSaid : Prop := fnExactFirstAboveRow.holds Try.pinned (OpenSpec.ofChange fnExactFirstAboveSpec)

/-- ITS FALSE NEIGHBOUR: 'it returns false'. Refute it at one input. -/
def fnExactFirstAboveWrong : ChangeSpec := { name := "fnExactFirstAbove", fn := fun _ => fun
  | [d1, d2] => { results := [.lit (.bool false)], args := [d1, d2] }
  | _ => none }
def FnExactFirstAboveWrongFalsely : Prop := fnExactFirstAboveRow.holds Try.pinned (OpenSpec.ofChange fnExactFirstAboveWrong)

/-- 'laws.FnExactAddAt': WHATEVER THE INPUT: true; the input reads as it did. -/
def fnExactAddAtSpec : ChangeSpec := { name := "fnExactAddAt", fn := fun _ => fun
  | [d1, d2, d3] => { results := [.lit (.bool true)], args := [d1, d2, d3] }
  | _ => none }
def fnExactAddAtRow : OpenClaim := { program := "ytdjdkabblfccjaa", sum := "9b91b2a1be73609c72078cf716cb0277140759ae3bcf60b8236c63481395b716", func := "loop.example/g00564/laws.FnExactAddAt", spec := "fnExactAddAt", apart := false }
def FnExactAddAtSaid : Prop := fnExactAddAtRow.holds Try.pinned (OpenSpec.ofChange fnExactAddAtSpec)

/-- ITS FALSE NEIGHBOUR: 'it returns false'. Refute it at one input. -/
def fnExactAddAtWrong : ChangeSpec := { name := "fnExactAddAt", fn := fun _ => fun
  | [d1, d2, d3] => { results := [.lit (.bool false)], args := [d1, d2, d3] }
  | _ => none }
def FnExactAddAtWrongFalsely : Prop := fnExactAddAtRow.holds Try.pinned (OpenSpec.ofChange fnExactAddAtWrong)

/-- 'laws.FnAbove': WHATEVER THE INPUT: true; the input reads as it did. -/
def fnAboveSpec : ChangeSpec := { name := "fnAbove", fn := fun _ => fun
  | [d1, d2] => { results := [.lit (.bool true)], args := [d1, d2] }
  | _ => none }
def fnAboveRow : OpenClaim := { program := "ytdjdkabblfccjaa", sum := "9b91b2a1be73609c72078cf716cb0277140759ae3bcf60b8236c63481395b716", func := "loop.example/g00564/laws.FnAbove", spec := "fnAbove", apart := false }
def FnAboveSaid : Prop := fnAboveRow.holds Try.pinned (OpenSpec.ofChange fnAboveSpec)

/-- ITS FALSE NEIGHBOUR: 'it returns false'. Refute it at one input. -/
def fnAboveWrong : ChangeSpec := { name := "fnAbove", fn := fun _ => fun
  | [d1, d2] => { results := [.lit (.bool false)], args := [d1, d2] }
  | _ => none }
def FnAboveWrongFalsely : Prop := fnAboveRow.holds Try.pinned (OpenSpec.ofChange fnAboveWrong)

/-- 'laws.FnExactSumsOf': WHATEVER THE INPUT: true; the input reads as it did. -/
def fnExactSumsOfSpec : ChangeSpec := { name := "fnExactSumsOf", fn := fun _ => fun
  | [d] => { results := [.lit (.bool true)], args := [d] }
  | _ => none }
def fnExactSumsOfRow : OpenClaim := { program := "ytdjdkabblfccjaa", sum := "9b91b2a1be73609c72078cf716cb0277140759ae3bcf60b8236c63481395b716", func := "loop.example/g00564/laws.FnExactSumsOf", spec := "fnExactSumsOf", unfollowed := true, recurses := true, apart := false }
def FnExactSumsOfSaid : Prop := fnExactSumsOfRow.holds Try.pinned (OpenSpec.ofChange fnExactSumsOfSpec)

/-- ITS FALSE NEIGHBOUR: 'it returns false'. Refute it at one input. -/
def fnExactSumsOfWrong : ChangeSpec := { name := "fnExactSumsOf", fn := fun _ => fun
  | [d] => { results := [.lit (.bool false)], args := [d] }
  | _ => none }
def FnExactSumsOfWrongFalsely : Prop := fnExactSumsOfRow.holds Try.pinned (OpenSpec.ofChange fnExactSumsOfWrong)

/-- 'laws.FnSums': WHATEVER THE INPUT: true; the input reads as it did. -/
def fnSumsSpec : ChangeSpec := { name := "fnSums", fn := fun _ => fun
  | [d1, d2] => { results := [.lit (.bool true)], args := [d1, d2] }
  | _ => none }
def fnSumsRow : OpenClaim := { program := "ytdjdkabblfccjaa", sum := "9b91b2a1be73609c72078cf716cb0277140759ae3bcf60b8236c63481395b716", func := "loop.example/g00564/laws.FnSums", spec := "fnSums", unfollowed := true, recurses := true, apart := false }
def FnSumsSaid : Prop := fnSumsRow.holds Try.pinned (OpenSpec.ofChange fnSumsSpec)

/-- ITS FALSE NEIGHBOUR: 'it returns false'. Refute it at one input. -/
def fnSumsWrong : ChangeSpec := { name := "fnSums", fn := fun _ => fun
  | [d1, d2] => { results := [.lit (.bool false)], args := [d1, d2] }
  | _ => none }
def FnSumsWrongFalsely : Prop := fnSumsRow.holds Try.pinned (OpenSpec.ofChange fnSumsWrong)

/-- 'laws.FnExactSparseOf': WHATEVER THE INPUT: true; the input reads as it did. -/
def fnExactSparseOfSpec : ChangeSpec := { name := "fnExactSparseOf", fn := fun _ => fun
  | [d] => { results := [.lit (.bool true)], args := [d] }
  | _ => none }
def fnExactSparseOfRow : OpenClaim := { program := "ytdjdkabblfccjaa", sum := "9b91b2a1be73609c72078cf716cb0277140759ae3bcf60b8236c63481395b716", func := "loop.example/g00564/laws.FnExactSparseOf", spec := "fnExactSparseOf", unfollowed := true, recurses := true, apart := false }
def FnExactSparseOfSaid : Prop := fnExactSparseOfRow.holds Try.pinned (OpenSpec.ofChange fnExactSparseOfSpec)

/-- ITS FALSE NEIGHBOUR: 'it returns false'. Refute it at one input. -/
def fnExactSparseOfWrong : ChangeSpec := { name := "fnExactSparseOf", fn := fun _ => fun
  | [d] => { results := [.lit (.bool false)], args := [d] }
  | _ => none }
def FnExactSparseOfWrongFalsely : Prop := fnExactSparseOfRow.holds Try.pinned (OpenSpec.ofChange fnExactSparseOfWrong)

/-- 'laws.FnExactLeastIn': WHATEVER THE INPUT: true; the input reads as it did. -/
def fnExactLeastInSpec : ChangeSpec := { name := "fnExactLeastIn", fn := fun _ => fun
  | [d1, d2, d3] => { results := [.lit (.bool true)], args := [d1, d2, d3] }
  | _ => none }
def fnExactLeastInRow : OpenClaim := { program := "ytdjdkabblfccjaa", sum := "9b91b2a1be73609c72078cf716cb0277140759ae3bcf60b8236c63481395b716", func := "loop.example/g00564/laws.FnExactLeastIn", spec := "fnExactLeastIn", unfollowed := true, recurses := true, apart := false }
def FnExactLeastInSaid : Prop := fnExactLeastInRow.holds Try.pinned (OpenSpec.ofChange fnExactLeastInSpec)

/-- ITS FALSE NEIGHBOUR: 'it returns false'. Refute it at one input. -/
def fnExactLeastInWrong : ChangeSpec := { name := "fnExactLeastIn", fn := fun _ => fun
  | [d1, d2, d3] => { results := [.lit (.bool false)], args := [d1, d2, d3] }
  | _ => none }
def FnExactLeastInWrongFalsely : Prop := fnExactLeastInRow.holds Try.pinned (OpenSpec.ofChange fnExactLeastInWrong)

/-- 'laws.FnSparse': WHATEVER THE INPUT: true; the input reads as it did. -/
def fnSparseSpec : ChangeSpec := { name := "fnSparse", fn := fun _ => fun
  | [d1, d2] => { results := [.lit (.bool true)], args := [d1, d2] }
  | _ => none }
def fnSparseRow : OpenClaim := { program := "ytdjdkabblfccjaa", sum := "9b91b2a1be73609c72078cf716cb0277140759ae3bcf60b8236c63481395b716", func := "loop.example/g00564/laws.FnSparse", spec := "fnSparse", unfollowed := true, recurses := true, apart := false }
def FnSparseSaid : Prop := fnSparseRow.holds Try.pinned (OpenSpec.ofChange fnSparseSpec)

/-- ITS FALSE NEIGHBOUR: 'it returns false'. Refute it at one input. -/
def fnSparseWrong : ChangeSpec := { name := "fnSparse", fn := fun _ => fun
  | [d1, d2] => { results := [.lit (.bool false)], args := [d1, d2] }
  | _ => none }
def FnSparseWrongFalsely : Prop := fnSparseRow.holds Try.pinned (OpenSpec.ofChange fnSparseWrong)

/- THE SECOND FORM. 'bulk': how many values and letters a reading holds, each counted each time it is reached (what is shared counts as often as it is met; a slice's spare places count too). A statement '..UptoSaid' is the law's where the arguments, and the package variables that the reading takes, are together of bulk at most 1048576: NARROWER than '..Said'. Prove '..Said' where nothing that the law and all that it calls make is longer than what came in: it says more and counts as full. Else prove '..UptoSaid'. A law counts once. -/
mutual
def uptoBulk {H : Type} : DataW H → Nat
  | .lit (.string bytes) => bytes.length + 1
  | .lit _ => 1
  | .nil => 1
  | .ptr d => uptoBulk d + 1
  | .slice elems spare => uptoBulkAll elems + uptoBulkAll spare + 1
  | .agg parts => uptoBulkAll parts + 1
  | .iface _ d => uptoBulk d + 1
  | .map entries => uptoBulkEntries entries + 1
  | .held _ => 1
def uptoBulkAll {H : Type} : List (DataW H) → Nat
  | [] => 0
  | d :: r => uptoBulk d + uptoBulkAll r
def uptoBulkEntries {H : Type} : List (Lit × DataW H) → Nat
  | [] => 0
  | x :: r => uptoBulkEntry x + uptoBulkEntries r
def uptoBulkEntry {H : Type} : Lit × DataW H → Nat
  | (.string bytes, d) => bytes.length + uptoBulk d + 1
  | (_, d) => uptoBulk d + 1
 end
def uptoSmall : (H : Type) → List (DataW H) → Bool := fun _ ds => decide (uptoBulkAll ds ≤ 1048576)
def OpenSpec.upto (s : _root_.Go.ChangeSpec) : _root_.Go.OpenSpec := { _root_.Go.OpenSpec.ofChange s with cond := some uptoSmall }

/-- 'laws.FnExactGoodSums', WHERE WHAT IT READS IS OF BULK AT MOST 1048576: true; the input reads as it did. -/
def fnExactGoodSumsUptoRow : OpenClaim := { program := "ytdjdkabblfccjaa", sum := "9b91b2a1be73609c72078cf716cb0277140759ae3bcf60b8236c63481395b716", func := "loop.example/g00564/laws.FnExactGoodSums", spec := "fnExactGoodSums", apart := false, narrowed := true }
def FnExactGoodSumsUptoSaid : Prop := fnExactGoodSumsUptoRow.holds Try.pinned (OpenSpec.upto fnExactGoodSumsSpec)

/-- 'laws.FnExactBetweenOf', WHERE WHAT IT READS IS OF BULK AT MOST 1048576: true; the input reads as it did. -/
def fnExactBetweenOfUptoRow : OpenClaim := { program := "ytdjdkabblfccjaa", sum := "9b91b2a1be73609c72078cf716cb0277140759ae3bcf60b8236c63481395b716", func := "loop.example/g00564/laws.FnExactBetweenOf", spec := "fnExactBetweenOf", apart := false, narrowed := true }
def FnExactBetweenOfUptoSaid : Prop := fnExactBetweenOfUptoRow.holds Try.pinned (OpenSpec.upto fnExactBetweenOfSpec)

/-- 'laws.FnExactSumTo', WHERE WHAT IT READS IS OF BULK AT MOST 1048576: true; the input reads as it did. -/
def fnExactSumToUptoRow : OpenClaim := { program := "ytdjdkabblfccjaa", sum := "9b91b2a1be73609c72078cf716cb0277140759ae3bcf60b8236c63481395b716", func := "loop.example/g00564/laws.FnExactSumTo", spec := "fnExactSumTo", apart := false, narrowed := true }
def FnExactSumToUptoSaid : Prop := fnExactSumToUptoRow.holds Try.pinned (OpenSpec.upto fnExactSumToSpec)

/-- 'laws.FnExactListOf', WHERE WHAT IT READS IS OF BULK AT MOST 1048576: true; the input reads as it did. -/
def fnExactListOfUptoRow : OpenClaim := { program := "ytdjdkabblfccjaa", sum := "9b91b2a1be73609c72078cf716cb0277140759ae3bcf60b8236c63481395b716", func := "loop.example/g00564/laws.FnExactListOf", spec := "fnExactListOf", apart := false, narrowed := true }
def FnExactListOfUptoSaid : Prop := fnExactListOfUptoRow.holds Try.pinned (OpenSpec.upto fnExactListOfSpec)

/-- 'laws.FnExactFirstAbove', WHERE WHAT IT READS IS OF BULK AT MOST 1048576: true; the input reads as it did. -/
def fnExactFirstAboveUptoRow : OpenClaim := { program := "ytdjdkabblfccjaa", sum := "9b91b2a1be73609c72078cf716cb0277140759ae3bcf60b8236c63481395b716", func := "loop.example/g00564/laws.FnExactFirstAbove", spec := "fnExactFirstAbove", apart := false, narrowed := true }
def FnExactFirstAboveUptoSaid : Prop := fnExactFirstAboveUptoRow.holds Try.pinned (OpenSpec.upto fnExactFirstAboveSpec)

/-- 'laws.FnExactAddAt', WHERE WHAT IT READS IS OF BULK AT MOST 1048576: true; the input reads as it did. -/
def fnExactAddAtUptoRow : OpenClaim := { program := "ytdjdkabblfccjaa", sum := "9b91b2a1be73609c72078cf716cb0277140759ae3bcf60b8236c63481395b716", func := "loop.example/g00564/laws.FnExactAddAt", spec := "fnExactAddAt", apart := false, narrowed := true }
def FnExactAddAtUptoSaid : Prop := fnExactAddAtUptoRow.holds Try.pinned (OpenSpec.upto fnExactAddAtSpec)

/-- 'laws.FnAbove', WHERE WHAT IT READS IS OF BULK AT MOST 1048576: true; the input reads as it did. -/
def fnAboveUptoRow : OpenClaim := { program := "ytdjdkabblfccjaa", sum := "9b91b2a1be73609c72078cf716cb0277140759ae3bcf60b8236c63481395b716", func := "loop.example/g00564/laws.FnAbove", spec := "fnAbove", apart := false, narrowed := true }
def FnAboveUptoSaid : Prop := fnAboveUptoRow.holds Try.pinned (OpenSpec.upto fnAboveSpec)

/-- 'laws.FnExactSumsOf', WHERE WHAT IT READS IS OF BULK AT MOST 1048576: true; the input reads as it did. -/
def fnExactSumsOfUptoRow : OpenClaim := { program := "ytdjdkabblfccjaa", sum := "9b91b2a1be73609c72078cf716cb0277140759ae3bcf60b8236c63481395b716", func := "loop.example/g00564/laws.FnExactSumsOf", spec := "fnExactSumsOf", unfollowed := true, recurses := true, apart := false, narrowed := true }
def FnExactSumsOfUptoSaid : Prop := fnExactSumsOfUptoRow.holds Try.pinned (OpenSpec.upto fnExactSumsOfSpec)

/-- 'laws.FnSums', WHERE WHAT IT READS IS OF BULK AT MOST 1048576: true; the input reads as it did. -/
def fnSumsUptoRow : OpenClaim := { program := "ytdjdkabblfccjaa", sum := "9b91b2a1be73609c72078cf716cb0277140759ae3bcf60b8236c63481395b716", func := "loop.example/g00564/laws.FnSums", spec := "fnSums", unfollowed := true, recurses := true, apart := false, narrowed := true }
def FnSumsUptoSaid : Prop := fnSumsUptoRow.holds Try.pinned (OpenSpec.upto fnSumsSpec)

/-- 'laws.FnExactSparseOf', WHERE WHAT IT READS IS OF BULK AT MOST 1048576: true; the input reads as it did. -/
def fnExactSparseOfUptoRow : OpenClaim := { program := "ytdjdkabblfccjaa", sum := "9b91b2a1be73609c72078cf716cb0277140759ae3bcf60b8236c63481395b716", func := "loop.example/g00564/laws.FnExactSparseOf", spec := "fnExactSparseOf", unfollowed := true, recurses := true, apart := false, narrowed := true }
def FnExactSparseOfUptoSaid : Prop := fnExactSparseOfUptoRow.holds Try.pinned (OpenSpec.upto fnExactSparseOfSpec)

/-- 'laws.FnExactLeastIn', WHERE WHAT IT READS IS OF BULK AT MOST 1048576: true; the input reads as it did. -/
def fnExactLeastInUptoRow : OpenClaim := { program := "ytdjdkabblfccjaa", sum := "9b91b2a1be73609c72078cf716cb0277140759ae3bcf60b8236c63481395b716", func := "loop.example/g00564/laws.FnExactLeastIn", spec := "fnExactLeastIn", unfollowed := true, recurses := true, apart := false, narrowed := true }
def FnExactLeastInUptoSaid : Prop := fnExactLeastInUptoRow.holds Try.pinned (OpenSpec.upto fnExactLeastInSpec)

/-- 'laws.FnSparse', WHERE WHAT IT READS IS OF BULK AT MOST 1048576: true; the input reads as it did. -/
def fnSparseUptoRow : OpenClaim := { program := "ytdjdkabblfccjaa", sum := "9b91b2a1be73609c72078cf716cb0277140759ae3bcf60b8236c63481395b716", func := "loop.example/g00564/laws.FnSparse", spec := "fnSparse", unfollowed := true, recurses := true, apart := false, narrowed := true }
def FnSparseUptoSaid : Prop := fnSparseUptoRow.holds Try.pinned (OpenSpec.upto fnSparseSpec)

end Rows
end Go.Proofs.Ytdjdkabblfccjaa
