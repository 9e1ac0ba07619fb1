/- For every two dates (any ints as year, month and day, and circa) the law FnExactCompareDates answers true; no condition. -/
import Derived.Test.YtanlagnhlpnakaaGCmp
import Derived.Test.YtanlagnhlpnakaaGP12
namespace Go.Proofs.Ytanlagnhlpnakaa.Pure
open Go.RowKit Go.Proofs.Ytanlagnhlpnakaa.G Go.Proofs.YtanlagnhlpnakaaW.PrintWords Go.Proofs.YtanlagnhlpnakaaW.PrintLast
theorem FnExactCompareDates : laws_FnExactCompareDates.Pure := by
  intro y m d c y' m' d' c' _ _ _ _ _ _
  refine ⟨6, ?_⟩
  unfold laws_FnExactCompareDates.f laws_toDate.f spec_CompareDates.f impl_CompareDates.f
  simp only [Option.bind_some, spec_good, impl_good]
  cases h : goodD y m d c
  · simp
  · cases h' : goodD y' m' d' c'
    · simp
    · simp [spec_cmp 5 h h', impl_cmp 1]
end Go.Proofs.Ytanlagnhlpnakaa.Pure
