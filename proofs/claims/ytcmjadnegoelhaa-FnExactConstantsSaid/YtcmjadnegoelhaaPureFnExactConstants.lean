/- The program's constants have the values that the reference names. No condition. -/
import Derived.Test.YtcmjadnegoelhaaPFnExactConstantsx0
import Derived.Test.YtcmjadnegoelhaaPFnExactConstantsx1
namespace Go.Proofs.Ytcmjadnegoelhaa.Pure
open Go.RowKit Go.Proofs.Ytcmjadnegoelhaa.PFnExactConstants Go.Proofs.YtcmjadnegoelhaaW.PrintWords Go.Proofs.YtcmjadnegoelhaaW.PrintLast Go.Proofs.YtcmjadnegoelhaaW.PrintMore
set_option linter.unusedVariables false
set_option linter.unusedSimpArgs false
theorem FnExactConstants : laws_FnExactConstants.f  = some true := rfl

end Go.Proofs.Ytcmjadnegoelhaa.Pure
