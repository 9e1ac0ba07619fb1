/- For every two dates (any ints as year, month and day, and circa) the law FnExactRefines answers true; no condition. -/
import Derived.Test.YtanlagnhlpnakaaGDates
import Derived.Test.YtanlagnhlpnakaaGP9
namespace Go.Proofs.Ytanlagnhlpnakaa.Pure
open Go.RowKit Go.Proofs.Ytanlagnhlpnakaa.G Go.Proofs.YtanlagnhlpnakaaW.PrintWords Go.Proofs.YtanlagnhlpnakaaW.PrintLast
theorem FnExactRefines : laws_FnExactRefines.Pure := by
  intro y m d c y' m' d' c' _ _ _ _ _ _
  refine ⟨2, ?_⟩
  unfold laws_FnExactRefines.f laws_toDate.f spec_Refines.f impl_Refines.f
  simp only [Option.bind_some, spec_good, impl_good, spec_ref, impl_ref]
  cases goodD y m d c <;> cases goodD y' m' d' c' <;> simp
end Go.Proofs.Ytanlagnhlpnakaa.Pure
