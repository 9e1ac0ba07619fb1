/- For every year and month (any int) the law FnExactDaysInMonth answers true; no condition. -/
import Derived.Test.YtanlagnhlpnakaaPFnExactDaysInMonthx1
namespace Go.Proofs.Ytanlagnhlpnakaa.Pure
set_option linter.unusedSimpArgs false
set_option linter.unusedVariables false
open Go.RowKit Go.Proofs.Ytanlagnhlpnakaa.PFnExactDaysInMonth Go.Proofs.YtanlagnhlpnakaaW.PrintWords Go.Proofs.YtanlagnhlpnakaaW.PrintLast

theorem FnExactDaysInMonth : laws_FnExactDaysInMonth.Pure := by
  intro y m _ _
  refine ⟨1, ?_⟩
  unfold laws_FnExactDaysInMonth.f spec_DaysInMonth.f impl_DaysInMonth.f spec_l1In.f impl_inside.f spec_l3Days.f impl_daysInMonth.f
  by_cases h1 : y ≥ 1 <;> by_cases h2 : y ≤ 2999 <;> by_cases h3 : m ≥ 1 <;> by_cases h4 : m ≤ 12 <;> simp only [h1, h2, h3, h4, if_true, if_false, decide_true, decide_false, Option.bind_some, ite_true, ite_false, Bool.false_eq_true, reduceCtorEq] <;> try rfl
  by_cases e2 : m = 2
  · have z4 : Int.tmod y 4 = y % 4 := Int.tmod_eq_emod_of_nonneg (by omega)
    have z100 : Int.tmod y 100 = y % 100 := Int.tmod_eq_emod_of_nonneg (by omega)
    have z400 : Int.tmod y 400 = y % 400 := Int.tmod_eq_emod_of_nonneg (by omega)
    rw [z4, z100, z400]
    by_cases c : y % 400 = 0
    · have a : y % 4 = 0 := by omega
      have b : y % 100 = 0 := by omega
      simp [e2, a, b, c, spec_l3Days.j0]
    · by_cases a : y % 4 = 0 <;> by_cases b : y % 100 = 0 <;> simp [e2, a, b, c, spec_l3Days.j0]
  · by_cases a : m = 4 <;> by_cases b : m = 6 <;> by_cases c : m = 9 <;> by_cases d : m = 11 <;> simp_all

end Go.Proofs.Ytanlagnhlpnakaa.Pure
