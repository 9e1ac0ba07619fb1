-- Written by a program of this session (gen.py), over the kit's print of one function. Lean checks it.
import Derived.Test.YtanlagnhlpnakaaGF12
import Derived.Test.YtanlagnhlpnakaaGO
namespace Go.Proofs.Ytanlagnhlpnakaa.G
open Go.Proofs.Ytanlagnhlpnakaa.Opn
open Go.RowKit Go.Proofs.YtanlagnhlpnakaaW.PrintWords Go.Proofs.YtanlagnhlpnakaaW.PrintLast Go.Proofs.YtanlagnhlpnakaaW.PrintMore
attribute [local go_sem] max2_int min2_int max_two min_two max_three min_three max_four min_four   -- for this text's walks alone
set_option linter.unusedVariables false
set_option linter.unusedSimpArgs false

def laws_FnExactCompareDates.Pure : Prop := ∀ (a0_0 : Int) (a0_1 : Int) (a0_2 : Int) (a0_3 : Bool) (a1_0 : Int) (a1_1 : Int) (a1_2 : Int) (a1_3 : Bool), okInt .i64 a0_0 → okInt .i64 a0_1 → okInt .i64 a0_2 → okInt .i64 a1_0 → okInt .i64 a1_1 → okInt .i64 a1_2 → ∃ k, laws_FnExactCompareDates.f k a0_0 a0_1 a0_2 a0_3 a1_0 a1_1 a1_2 a1_3 = some true
theorem laws_FnExactCompareDates.walk (P : laws_FnExactCompareDates.Pure) (a0_0 : Int) (a0_1 : Int) (a0_2 : Int) (a0_3 : Bool) (a1_0 : Int) (a1_1 : Int) (a1_2 : Int) (a1_3 : Bool) (w : World)  (ba0_0 : okInt .i64 a0_0) (ba0_1 : okInt .i64 a0_1) (ba0_2 : okInt .i64 a0_2) (ba1_0 : okInt .i64 a1_0) (ba1_1 : okInt .i64 a1_1) (ba1_2 : okInt .i64 a1_2) :
    Calls Try.prog 12 #[.agg #[.int .i64 a0_0, .int .i64 a0_1, .int .i64 a0_2, .bool a0_3], .agg #[.int .i64 a1_0, .int .i64 a1_1, .int .i64 a1_2, .bool a1_3]] w fun e w' => e = .returned (.bool true) ∧ Below w.heap.size w w' := by
  obtain ⟨k, h⟩ := P a0_0 a0_1 a0_2 a0_3 a1_0 a1_1 a1_2 a1_3 ba0_0 ba0_1 ba0_2 ba1_0 ba1_1 ba1_2
  refine (laws_FnExactCompareDates.calls k a0_0 a0_1 a0_2 a0_3 a1_0 a1_1 a1_2 a1_3 true w  h).mono ?_
  rintro e w' ⟨rfl, hd⟩
  exact ⟨rfl, hd⟩

end Go.Proofs.Ytanlagnhlpnakaa.G
