/- Of the law FnExactParseInverse: the walk under the row's condition, the row, or its card; no condition. -/
import Derived.Test.YtcckamdpncbkoaaDoorKFnExactParseInverseb
namespace Go.Proofs.YtcckamdpncbkoaaDoor.fnExactParseInverse
open Go.ChangeShapes Go.WideShapes Go.ChangeAt Go.RowKit Go.Joins
open Go.ChangeMaps (open_string shut_string)
open Go.Proofs.YtcckamdpncbkoaaDoor.G Go.Proofs.YtcckamdpncbkoaaDoor.Opn
set_option linter.unusedVariables false
set_option linter.unusedSimpArgs false
theorem cardly : Rows.FnExactParseInverseCardSaid :=
  Claim7.holds_tied_plain_at .later [] [.data, .pinned] true (true, "8832c7b29ecade25c152abaedbb8d5a9446932021e04d1ad6d0715e10feae5da") false proved (fun _ h => by cases h) (by kernel_rfl) (fun _ h => by cases h) Go.Proofs.YtcckamdpncbkoaaDoor.fnExactParseInverse_row_tie rfl ⟨rfl, rfl⟩ (by kernel_rfl) rfl
    (fun f fn hf hfn => by
      obtain rfl : f = 9 := Option.some.inj ((show Tryd.prog.funcNamed "loop.example/g00896/laws.FnExactParseInverse" = some 9 by kernel_rfl).symm.trans hf) |>.symm
      obtain rfl : fn = Tryd.f9 := (Option.some.inj (Tryd.func9.symm.trans hfn)).symm
      exact ⟨by kernel_rfl, fun j t ht => by
        rw [Tryd.params9] at ht
        have hm : t ∈ [9] := by simpa using Array.mem_of_getElem? ht
        have hall : ([9].all fun u => !Tryd.prog.wantsStandIn u) = true := by kernel_rfl
        exact (show Tryd.prog.wantsStandIn t = false by simpa using List.all_eq_true.1 hall t hm)⟩)
    (by kernel_rfl)
#print axioms cardly
end Go.Proofs.YtcckamdpncbkoaaDoor.fnExactParseInverse
namespace Go.Proofs.YtcckamdpncbkoaaDoor
/-- The row, under a short name, for the claim. -/
theorem fnExactParseInverse_holds : Rows.FnExactParseInverseCardSaid := fnExactParseInverse.cardly
end Go.Proofs.YtcckamdpncbkoaaDoor
