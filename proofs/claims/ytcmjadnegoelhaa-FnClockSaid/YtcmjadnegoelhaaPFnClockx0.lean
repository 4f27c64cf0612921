-- Written for this claim by a program of this session, out of Lean's own print of the program. Nothing in it is trusted: Lean checks it.
import Derived.Test.YtcmjadnegoelhaaProg
import Derived.Below
import Derived.Deep.Draws
import Derived.Deep.AppendLies
import Derived.Maps.AppendAt
import Derived.OwnWalk
import Derived.Laws.BytesArg
import Derived.Laws.MakeOwn
import Derived.Laws.OwnMore
import Derived.Deep.OwnRows
import Derived.Tactics
import Derived.Lib.ConvBytes
import Derived.Laws.Slices
import Derived.WalkKit
import Derived.KernelRfl
import Derived.RowKit3
import Derived.Deep.LoopGhost
import Derived.Deep.QuietTactic
import Derived.BigQuiet
import Derived.WideLaws
import Derived.Deep.DeepCutAuto
import Derived.Deep.CutBlock
import Derived.Deep.RegionHeld3
import Derived.Laws.Rows
import Derived.Lib.AppendStr
import Derived.ArgAppend
import Derived.Laws.IdiomCopy
import Derived.OrdersHeld
import Derived.Laws.BitsLemmas
import Derived.RowKit
import Derived.Test.YtcmjadnegoelhaaWWords
import Derived.Test.YtcmjadnegoelhaaWLast
import Derived.Test.YtcmjadnegoelhaaWTab
import Derived.Test.YtcmjadnegoelhaaWFour
import Derived.Test.YtcmjadnegoelhaaWQPut
import Derived.Test.YtcmjadnegoelhaaWApart
import Derived.Test.YtcmjadnegoelhaaWArr
import Derived.Test.YtcmjadnegoelhaaWZeros
import Derived.Test.YtcmjadnegoelhaaWFoot
import Derived.Test.YtcmjadnegoelhaaWKept
import Derived.Test.YtcmjadnegoelhaaWShare
import Derived.Test.YtcmjadnegoelhaaWN
import Derived.Test.YtcmjadnegoelhaaWFootNe
import Derived.Test.YtcmjadnegoelhaaWAt
import Derived.Test.YtcmjadnegoelhaaWEqStruct
import Derived.Test.YtcmjadnegoelhaaWRepsOne
import Derived.Test.YtcmjadnegoelhaaWInv
import Derived.Test.YtcmjadnegoelhaaWInvWords
import Derived.Test.YtcmjadnegoelhaaWGuard
import Derived.Test.YtcmjadnegoelhaaWNEv
import Derived.Test.YtcmjadnegoelhaaWMore
namespace Go.Proofs.Ytcmjadnegoelhaa.PFnClock
open Go.RowKit Go.Proofs.YtcmjadnegoelhaaW.PrintWords Go.Proofs.YtcmjadnegoelhaaW.PrintLast Go.Proofs.YtcmjadnegoelhaaW.PrintMore
attribute [local go_sem] max2_int min2_int max_two min_two max_three min_three max_four min_four   -- for this text's walks alone
set_option linter.unusedVariables false
set_option linter.unusedSimpArgs false



def errW : Option Int → Value
  | none => .nilIface
  | some c => .iface 0 (.int .i64 c)
theorem errW_none : errW none = .nilIface := rfl
theorem errW_some (c : Int) : errW (some c) = .iface 0 (.int .i64 c) := rfl

theorem info3 : (Try.prog.info? 3).map (fun i => (i.zero, i.size, i.bytes)) = some (some (.int .i64 0), 1, 8) := by kernel_rfl
-- the values' own types

end Go.Proofs.Ytcmjadnegoelhaa.PFnClock
