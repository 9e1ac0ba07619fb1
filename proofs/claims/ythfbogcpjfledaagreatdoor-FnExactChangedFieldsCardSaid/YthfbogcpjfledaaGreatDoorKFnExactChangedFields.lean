/- Of the law FnExactChangedFields: the walk under the row's condition, the row, or its card; no condition. -/
import Derived.Test.YthfbogcpjfledaaGreatDoorKFnExactChangedFieldsb
namespace Go.Proofs.YthfbogcpjfledaaGreatDoor.fnExactChangedFields
open Go.ChangeShapes Go.WideShapes Go.ChangeAt Go.RowKit Go.Joins
open Go.ChangeMaps (open_string shut_string)
open Go.Proofs.YthfbogcpjfledaaGreatDoor.G Go.Proofs.YthfbogcpjfledaaGreatDoor.Opn
set_option linter.unusedVariables false
set_option linter.unusedSimpArgs false
theorem cardly : Rows.FnExactChangedFieldsCardSaid :=
  Claim7.holds_tied_plain_at .later [] [.data, .data, .data, .data, .widerDeep, .pinned] true (true, "3e0fd818805c4d64f6269c3fa097e4863a1784edd2a095bf13f8a698fafd2a3f") false proved (fun _ h => by cases h) (by kernel_rfl) (fun _ h => by cases h) Go.Proofs.YthfbogcpjfledaaGreatDoor.fnExactChangedFields_row_tie rfl ⟨rfl, rfl⟩ (by kernel_rfl) rfl
    (fun f fn hf hfn => by
      obtain rfl : f = 3 := Option.some.inj ((show Tryz.prog.funcNamed "loop.example/g00896/laws.FnExactChangedFields" = some 3 by kernel_rfl).symm.trans hf) |>.symm
      obtain rfl : fn = Tryz.f3 := (Option.some.inj (Tryz.func3.symm.trans hfn)).symm
      exact ⟨by kernel_rfl, fun j t ht => by
        rw [Tryz.params3] at ht
        have hm : t ∈ [26, 26] := by simpa using Array.mem_of_getElem? ht
        have hall : ([26, 26].all fun u => !Tryz.prog.wantsStandIn u) = true := by kernel_rfl
        exact (show Tryz.prog.wantsStandIn t = false by simpa using List.all_eq_true.1 hall t hm)⟩)
    (by kernel_rfl)
#print axioms cardly
end Go.Proofs.YthfbogcpjfledaaGreatDoor.fnExactChangedFields
namespace Go.Proofs.YthfbogcpjfledaaGreatDoor
/-- The row, under a short name, for the claim. -/
theorem fnExactChangedFields_holds : Rows.FnExactChangedFieldsCardSaid := fnExactChangedFields.cardly
end Go.Proofs.YthfbogcpjfledaaGreatDoor
