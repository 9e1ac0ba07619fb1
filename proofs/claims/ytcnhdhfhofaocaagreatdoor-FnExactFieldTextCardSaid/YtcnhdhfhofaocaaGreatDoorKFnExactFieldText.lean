/- Of the law FnExactFieldText: the walk under the row's condition, the row, or its card; no condition. -/
import Derived.Test.YtcnhdhfhofaocaaGreatDoorKFnExactFieldTextb
namespace Go.Proofs.YtcnhdhfhofaocaaGreatDoor.fnExactFieldText
open Go.ChangeShapes Go.WideShapes Go.ChangeAt Go.RowKit Go.Joins
open Go.ChangeMaps (open_string shut_string)
open Go.Proofs.YtcnhdhfhofaocaaGreatDoor.G Go.Proofs.YtcnhdhfhofaocaaGreatDoor.Opn
set_option linter.unusedVariables false
set_option linter.unusedSimpArgs false
theorem cardly : Rows.FnExactFieldTextCardSaid :=
  Claim7.holds_tied_plain_at .later [] [.data, .data, .data, .data, .widerDeep, .pinned] true (true, "6f1aa1f6d6ae8e6ec360a847d9809ae6a329818703d858555e376bdd052e3b76") false proved (fun _ h => by cases h) (by kernel_rfl) (fun _ h => by cases h) Go.Proofs.YtcnhdhfhofaocaaGreatDoor.fnExactFieldText_row_tie rfl ⟨rfl, rfl⟩ (by kernel_rfl) rfl
    (fun f fn hf hfn => by
      obtain rfl : f = 3 := Option.some.inj ((show Tryz.prog.funcNamed "loop.example/g00896/laws.FnExactFieldText" = some 3 by kernel_rfl).symm.trans hf) |>.symm
      obtain rfl : fn = Tryz.f3 := (Option.some.inj (Tryz.func3.symm.trans hfn)).symm
      exact ⟨by kernel_rfl, fun j t ht => by
        rw [Tryz.params3] at ht
        have hm : t ∈ [26, 9] := by simpa using Array.mem_of_getElem? ht
        have hall : ([26, 9].all fun u => !Tryz.prog.wantsStandIn u) = true := by kernel_rfl
        exact (show Tryz.prog.wantsStandIn t = false by simpa using List.all_eq_true.1 hall t hm)⟩)
    (by kernel_rfl)
#print axioms cardly
end Go.Proofs.YtcnhdhfhofaocaaGreatDoor.fnExactFieldText
namespace Go.Proofs.YtcnhdhfhofaocaaGreatDoor
/-- The row, under a short name, for the claim. -/
theorem fnExactFieldText_holds : Rows.FnExactFieldTextCardSaid := fnExactFieldText.cardly
end Go.Proofs.YtcnhdhfhofaocaaGreatDoor
