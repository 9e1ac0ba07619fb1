/- Of the law FnExactCompareNames: the walk under the row's condition, the row, or its card; no condition. -/
import Derived.Test.YtcckamdpncbkoaaDoorKFnExactCompareNamesb
namespace Go.Proofs.YtcckamdpncbkoaaDoor.fnExactCompareNames
open Go.ChangeShapes Go.WideShapes Go.ChangeAt Go.RowKit Go.Joins
open Go.ChangeMaps (open_string shut_string)
open Go.Proofs.YtcckamdpncbkoaaDoor.G Go.Proofs.YtcckamdpncbkoaaDoor.Opn
set_option linter.unusedVariables false
set_option linter.unusedSimpArgs false
theorem cardly : Rows.FnExactCompareNamesCardSaid :=
  Claim7.holds_tied_plain_at .later [] [.data, .pinned] true (true, "8832c7b29ecade25c152abaedbb8d5a9446932021e04d1ad6d0715e10feae5da") false proved (fun _ h => by cases h) (by kernel_rfl) (fun _ h => by cases h) Go.Proofs.YtcckamdpncbkoaaDoor.fnExactCompareNames_row_tie rfl ⟨rfl, rfl⟩ (by kernel_rfl) rfl
    (fun f fn hf hfn => by
      obtain rfl : f = 11 := Option.some.inj ((show Tryd.prog.funcNamed "loop.example/g00896/laws.FnExactCompareNames" = some 11 by kernel_rfl).symm.trans hf) |>.symm
      obtain rfl : fn = Tryd.f11 := (Option.some.inj (Tryd.func11.symm.trans hfn)).symm
      exact ⟨by kernel_rfl, fun j t ht => by
        rw [Tryd.params11] at ht
        have hm : t ∈ [24, 24] := by simpa using Array.mem_of_getElem? ht
        have hall : ([24, 24].all fun u => !Tryd.prog.wantsStandIn u) = true := by kernel_rfl
        exact (show Tryd.prog.wantsStandIn t = false by simpa using List.all_eq_true.1 hall t hm)⟩)
    (by kernel_rfl)
#print axioms cardly
end Go.Proofs.YtcckamdpncbkoaaDoor.fnExactCompareNames
namespace Go.Proofs.YtcckamdpncbkoaaDoor
/-- The row, under a short name, for the claim. -/
theorem fnExactCompareNames_holds : Rows.FnExactCompareNamesCardSaid := fnExactCompareNames.cardly
end Go.Proofs.YtcckamdpncbkoaaDoor
