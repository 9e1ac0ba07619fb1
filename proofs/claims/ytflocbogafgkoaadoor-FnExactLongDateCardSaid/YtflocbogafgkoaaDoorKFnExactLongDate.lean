/- Of the law FnExactLongDate: the walk under the row's condition, the row, or its card; no condition. -/
import Derived.Test.YtflocbogafgkoaaDoorKFnExactLongDateb
namespace Go.Proofs.YtflocbogafgkoaaDoor.fnExactLongDate
open Go.ChangeShapes Go.WideShapes Go.ChangeAt Go.RowKit Go.Joins
open Go.ChangeMaps (open_string shut_string)
open Go.Proofs.YtflocbogafgkoaaDoor.G Go.Proofs.YtflocbogafgkoaaDoor.Opn
set_option linter.unusedVariables false
set_option linter.unusedSimpArgs false
theorem cardly : Rows.FnExactLongDateCardSaid :=
  Claim7.holds_tied_plain_at .later [] [.data, .data, .data, .data] true (true, "bb93c666ea49f005f2f0cc87be3dda48d296235d8580d21ef3a3110e572d8ffd") false proved (fun _ h => by cases h) (by kernel_rfl) (fun _ h => by cases h) Go.Proofs.YtflocbogafgkoaaDoor.fnExactLongDate_row_tie rfl ⟨rfl, rfl⟩ (by kernel_rfl) rfl
    (fun f fn hf hfn => by
      obtain rfl : f = 3 := Option.some.inj ((show Tryd.prog.funcNamed "loop.example/g00896/laws.FnExactLongDate" = some 3 by kernel_rfl).symm.trans hf) |>.symm
      obtain rfl : fn = Tryd.f3 := (Option.some.inj (Tryd.func3.symm.trans hfn)).symm
      exact ⟨by kernel_rfl, fun j t ht => by
        rw [Tryd.params3] at ht
        have hm : t ∈ [23] := by simpa using Array.mem_of_getElem? ht
        have hall : ([23].all fun u => !Tryd.prog.wantsStandIn u) = true := by kernel_rfl
        exact (show Tryd.prog.wantsStandIn t = false by simpa using List.all_eq_true.1 hall t hm)⟩)
    (by kernel_rfl)
#print axioms cardly
end Go.Proofs.YtflocbogafgkoaaDoor.fnExactLongDate
namespace Go.Proofs.YtflocbogafgkoaaDoor
/-- The row, under a short name, for the claim. -/
theorem fnExactLongDate_holds : Rows.FnExactLongDateCardSaid := fnExactLongDate.cardly
end Go.Proofs.YtflocbogafgkoaaDoor
