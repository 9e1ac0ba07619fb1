/- Of the law FnDateForms: the walk under the row's condition, the row, or its card; no condition. -/
import Derived.Test.YtmjmjfkjlblgaaaDoorKFnDateFormsb
namespace Go.Proofs.YtmjmjfkjlblgaaaDoor.fnDateForms
open Go.ChangeShapes Go.WideShapes Go.ChangeAt Go.RowKit Go.Joins
open Go.ChangeMaps (open_string shut_string)
open Go.Proofs.YtmjmjfkjlblgaaaDoor.G Go.Proofs.YtmjmjfkjlblgaaaDoor.Opn
set_option linter.unusedVariables false
set_option linter.unusedSimpArgs false
theorem cardly : Rows.FnDateFormsCardSaid :=
  Claim7.holds_tied_plain_at .later [] [.data, .data, .data, .data, .sentinel, .sentinel, .pinned] true (true, "ca9a998ccb2be41bce994d19c255c542a75fad0a9b751f06cbcd427755d9b01c") true proved (fun _ h => by cases h) (by kernel_rfl) (fun _ h => by cases h) Go.Proofs.YtmjmjfkjlblgaaaDoor.fnDateForms_row_tie rfl ⟨rfl, rfl⟩ (by kernel_rfl) rfl
    (fun f fn hf hfn => by
      obtain rfl : f = 5 := Option.some.inj ((show Tryd.prog.funcNamed "loop.example/g00896/laws.FnDateForms" = some 5 by kernel_rfl).symm.trans hf) |>.symm
      obtain rfl : fn = Tryd.f5 := (Option.some.inj (Tryd.func5.symm.trans hfn)).symm
      exact ⟨by kernel_rfl, fun j t ht => by
        rw [Tryd.params5] at ht
        have hm : t ∈ [22] := by simpa using Array.mem_of_getElem? ht
        have hall : ([22].all fun u => !Tryd.prog.wantsStandIn u) = true := by kernel_rfl
        exact (show Tryd.prog.wantsStandIn t = false by simpa using List.all_eq_true.1 hall t hm)⟩)
    (by kernel_rfl)
#print axioms cardly
end Go.Proofs.YtmjmjfkjlblgaaaDoor.fnDateForms
namespace Go.Proofs.YtmjmjfkjlblgaaaDoor
/-- The row, under a short name, for the claim. -/
theorem fnDateForms_holds : Rows.FnDateFormsCardSaid := fnDateForms.cardly
end Go.Proofs.YtmjmjfkjlblgaaaDoor
