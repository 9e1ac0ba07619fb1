/- The law FnExactConstants answers true; it has no argument and no condition. -/
import Derived.Test.YtanlagnhlpnakaaPFnExactConstantsx1
namespace Go.Proofs.Ytanlagnhlpnakaa.Pure
set_option linter.unusedSimpArgs false
set_option linter.unusedVariables false
open Go.RowKit Go.Proofs.Ytanlagnhlpnakaa.PFnExactConstants Go.Proofs.YtanlagnhlpnakaaW.PrintWords Go.Proofs.YtanlagnhlpnakaaW.PrintLast

theorem FnExactConstants : laws_FnExactConstants.Pure := by
  rfl

end Go.Proofs.Ytanlagnhlpnakaa.Pure
