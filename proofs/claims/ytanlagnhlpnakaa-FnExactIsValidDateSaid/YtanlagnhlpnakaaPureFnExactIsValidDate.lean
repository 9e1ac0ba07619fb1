/- For every date (any year, month and day that are ints, and circa) the law FnExactIsValidDate answers true; no condition. -/
import Derived.Test.YtanlagnhlpnakaaGDates
import Derived.Test.YtanlagnhlpnakaaGP7
namespace Go.Proofs.Ytanlagnhlpnakaa.Pure
open Go.RowKit Go.Proofs.Ytanlagnhlpnakaa.G Go.Proofs.YtanlagnhlpnakaaW.PrintWords Go.Proofs.YtanlagnhlpnakaaW.PrintLast
theorem FnExactIsValidDate : laws_FnExactIsValidDate.Pure := by
  intro y m d c _ _ _
  refine ⟨2, ?_⟩
  unfold laws_FnExactIsValidDate.f laws_toDate.f spec_IsValidDate.f
  simp [spec_good, impl_good]
end Go.Proofs.Ytanlagnhlpnakaa.Pure
