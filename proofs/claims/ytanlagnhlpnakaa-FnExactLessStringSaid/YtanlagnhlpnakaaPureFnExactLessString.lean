/- For every two strings the law FnExactLessString answers true; no condition. -/
import Derived.Test.YtanlagnhlpnakaaPFnExactLessStringx1
namespace Go.Proofs.Ytanlagnhlpnakaa.Pure
set_option linter.unusedSimpArgs false
set_option linter.unusedVariables false
open Go.RowKit Go.Proofs.Ytanlagnhlpnakaa.PFnExactLessString Go.Proofs.YtanlagnhlpnakaaW.PrintWords Go.Proofs.YtanlagnhlpnakaaW.PrintLast

theorem FnExactLessString : laws_FnExactLessString.Pure := by
  intro a b _ _
  unfold laws_FnExactLessString.f spec_LessString.f impl_LessString.f
  simp

end Go.Proofs.Ytanlagnhlpnakaa.Pure
