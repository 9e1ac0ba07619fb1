/- Of the law FnExactIsValidEntry: the walk under the row's condition, the row, or its card; no condition. -/
import Derived.Test.YtcckamdpncbkoabDoorKFnExactIsValidEntryb
namespace Go.Proofs.YtcckamdpncbkoabDoor.fnExactIsValidEntry
open Go.ChangeShapes Go.WideShapes Go.ChangeAt Go.RowKit Go.Joins
open Go.ChangeMaps (open_string shut_string)
open Go.Proofs.YtcckamdpncbkoabDoor.G Go.Proofs.YtcckamdpncbkoabDoor.Opn
set_option linter.unusedVariables false
set_option linter.unusedSimpArgs false
theorem cardly : Rows.FnExactIsValidEntryCardSaid :=
  Claim7.holds_tied_plain_at .later [] [.data, .pinned] true (true, "35d29435c341163ee31452f6cc9f191292bb66b419e91da0c8d4d0eb07eb6ef7") false proved (fun _ h => by cases h) (by kernel_rfl) (fun _ h => by cases h) Go.Proofs.YtcckamdpncbkoabDoor.fnExactIsValidEntry_row_tie rfl ⟨rfl, rfl⟩ (by kernel_rfl) rfl
    (fun f fn hf hfn => by
      obtain rfl : f = 8 := Option.some.inj ((show Tryd.prog.funcNamed "loop.example/g00896/laws.FnExactIsValidEntry" = some 8 by kernel_rfl).symm.trans hf) |>.symm
      obtain rfl : fn = Tryd.f8 := (Option.some.inj (Tryd.func8.symm.trans hfn)).symm
      exact ⟨by kernel_rfl, fun j t ht => by
        rw [Tryd.params8] at ht
        have hm : t ∈ [60] := by simpa using Array.mem_of_getElem? ht
        have hall : ([60].all fun u => !Tryd.prog.wantsStandIn u) = true := by kernel_rfl
        exact (show Tryd.prog.wantsStandIn t = false by simpa using List.all_eq_true.1 hall t hm)⟩)
    (by kernel_rfl)
#print axioms cardly
end Go.Proofs.YtcckamdpncbkoabDoor.fnExactIsValidEntry
namespace Go.Proofs.YtcckamdpncbkoabDoor
/-- The row, under a short name, for the claim. -/
theorem fnExactIsValidEntry_holds : Rows.FnExactIsValidEntryCardSaid := fnExactIsValidEntry.cardly
end Go.Proofs.YtcckamdpncbkoabDoor
