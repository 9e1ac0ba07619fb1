/- Of the law FnChangedFields: the walk under the row's condition, the row, or its card; no condition. -/
import Derived.Test.YtcbhlghofihjcaaGreatDoorKFnChangedFieldsb
namespace Go.Proofs.YtcbhlghofihjcaaGreatDoor.fnChangedFields
open Go.ChangeShapes Go.WideShapes Go.ChangeAt Go.RowKit Go.Joins
open Go.ChangeMaps (open_string shut_string)
open Go.Proofs.YtcbhlghofihjcaaGreatDoor.G Go.Proofs.YtcbhlghofihjcaaGreatDoor.Opn
set_option linter.unusedVariables false
set_option linter.unusedSimpArgs false
theorem cardly:Rows.FnChangedFieldsCardSaid :=
  Claim7.holds_tied_plain_at .later [] [.data,.data,.data,.data,.widerDeep,.pinned] true (true, "a6962aee405cc16c6cd2fd0083e42997496c9f29c26e59175d9adf3bfd9a05e1") false proved (fun _ h=>by cases h) (by kernel_rfl) (fun _ h=>by cases h) Go.Proofs.YtcbhlghofihjcaaGreatDoor.fnChangedFields_row_tie rfl ⟨rfl,rfl⟩ (by kernel_rfl) rfl
    (fun f fn hf hfn=>by
      obtain rfl:f=3:=Option.some.inj ((show Tryz.prog.funcNamed "loop.example/g00896/laws.FnChangedFields" = some 3 by kernel_rfl).symm.trans hf) |>.symm
      obtain rfl:fn=Tryz.f3:=(Option.some.inj (Tryz.func3.symm.trans hfn)).symm
      exact ⟨by kernel_rfl,fun j t ht=>by
        rw [Tryz.params3] at ht
        have hm:t∈[22]:=by simpa using Array.mem_of_getElem? ht
        have hall:([22].all fun u=>!Tryz.prog.wantsStandIn u)=true:=by kernel_rfl
        exact (show Tryz.prog.wantsStandIn t=false by simpa using List.all_eq_true.1 hall t hm)⟩)
    (by kernel_rfl)
#print axioms cardly
end Go.Proofs.YtcbhlghofihjcaaGreatDoor.fnChangedFields
namespace Go.Proofs.YtcbhlghofihjcaaGreatDoor
/-- The row, under a short name, for the claim. -/
theorem fnChangedFields_holds:Rows.FnChangedFieldsCardSaid:=fnChangedFields.cardly
end Go.Proofs.YtcbhlghofihjcaaGreatDoor
