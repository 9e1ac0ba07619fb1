/- Of the law FnExactIsValidLibrary: the walk under the row's condition, the row, or its card; no condition. -/
import Derived.Test.YtcckamdpncbkoabDoorKFnExactIsValidLibraryb
namespace Go.Proofs.YtcckamdpncbkoabDoor.fnExactIsValidLibrary
open Go.ChangeShapes Go.WideShapes Go.ChangeAt Go.RowKit Go.Joins
open Go.ChangeMaps (open_string shut_string)
open Go.Proofs.YtcckamdpncbkoabDoor.G Go.Proofs.YtcckamdpncbkoabDoor.Opn
set_option linter.unusedVariables false
set_option linter.unusedSimpArgs false
theorem cardly : Rows.FnExactIsValidLibraryCardSaid :=
  Claim7.holds_tied_plain_at .later [] [.data, .pinned] true (true, "35d29435c341163ee31452f6cc9f191292bb66b419e91da0c8d4d0eb07eb6ef7") false proved (fun _ h => by cases h) (by kernel_rfl) (fun _ h => by cases h) Go.Proofs.YtcckamdpncbkoabDoor.fnExactIsValidLibrary_row_tie rfl ⟨rfl, rfl⟩ (by kernel_rfl) rfl
    (fun f fn hf hfn => by
      obtain rfl : f = 9 := Option.some.inj ((show Tryd.prog.funcNamed "loop.example/g00896/laws.FnExactIsValidLibrary" = some 9 by kernel_rfl).symm.trans hf) |>.symm
      obtain rfl : fn = Tryd.f9 := (Option.some.inj (Tryd.func9.symm.trans hfn)).symm
      exact ⟨by kernel_rfl, fun j t ht => by
        rw [Tryd.params9] at ht
        have hm : t ∈ [71] := by simpa using Array.mem_of_getElem? ht
        have hall : ([71].all fun u => !Tryd.prog.wantsStandIn u) = true := by kernel_rfl
        exact (show Tryd.prog.wantsStandIn t = false by simpa using List.all_eq_true.1 hall t hm)⟩)
    (by kernel_rfl)
#print axioms cardly
end Go.Proofs.YtcckamdpncbkoabDoor.fnExactIsValidLibrary
namespace Go.Proofs.YtcckamdpncbkoabDoor
/-- The row, under a short name, for the claim. -/
theorem fnExactIsValidLibrary_holds : Rows.FnExactIsValidLibraryCardSaid := fnExactIsValidLibrary.cardly
end Go.Proofs.YtcckamdpncbkoabDoor
