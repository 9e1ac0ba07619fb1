/- Of the law FnExactMissingFields: the walk under the row's condition, the row, or its card; no condition. -/
import Derived.Test.YtdaofafeigdicaaGreatDoorKFnExactMissingFieldsb
namespace Go.Proofs.YtdaofafeigdicaaGreatDoor.fnExactMissingFields
open Go.ChangeShapes Go.WideShapes Go.ChangeAt Go.RowKit Go.Joins
open Go.ChangeMaps (open_string shut_string)
open Go.Proofs.YtdaofafeigdicaaGreatDoor.G Go.Proofs.YtdaofafeigdicaaGreatDoor.Opn
set_option linter.unusedVariables false
set_option linter.unusedSimpArgs false
theorem cardly : Rows.FnExactMissingFieldsCardSaid :=
  Claim7.holds_tied_plain_at .later [] [.data, .data, .data, .data, .pinned] true (true, "d7456413a2ad0f9f44942ccca70499a9ac81f2541cc50e67be2007b2032f14ab") false proved (fun _ h => by cases h) (by kernel_rfl) (fun _ h => by cases h) Go.Proofs.YtdaofafeigdicaaGreatDoor.fnExactMissingFields_row_tie rfl ⟨rfl, rfl⟩ (by kernel_rfl) rfl
    (fun f fn hf hfn => by
      obtain rfl : f = 3 := Option.some.inj ((show Tryz.prog.funcNamed "loop.example/g00896/laws.FnExactMissingFields" = some 3 by kernel_rfl).symm.trans hf) |>.symm
      obtain rfl : fn = Tryz.f3 := (Option.some.inj (Tryz.func3.symm.trans hfn)).symm
      exact ⟨by kernel_rfl, fun j t ht => by
        rw [Tryz.params3] at ht
        have hm : t ∈ [26] := by simpa using Array.mem_of_getElem? ht
        have hall : ([26].all fun u => !Tryz.prog.wantsStandIn u) = true := by kernel_rfl
        exact (show Tryz.prog.wantsStandIn t = false by simpa using List.all_eq_true.1 hall t hm)⟩)
    (by kernel_rfl)
#print axioms cardly
end Go.Proofs.YtdaofafeigdicaaGreatDoor.fnExactMissingFields
namespace Go.Proofs.YtdaofafeigdicaaGreatDoor
/-- The row, under a short name, for the claim. -/
theorem fnExactMissingFields_holds : Rows.FnExactMissingFieldsCardSaid := fnExactMissingFields.cardly
end Go.Proofs.YtdaofafeigdicaaGreatDoor
