/- Of the law FnChangedFields: the walk under the row's condition, the row, or its card; no condition. -/
import Derived.Test.YtcbhlghofihjcaaGreatDoorKFnChangedFieldsa
namespace Go.Proofs.YtcbhlghofihjcaaGreatDoor.fnChangedFields
open Go.ChangeShapes Go.WideShapes Go.ChangeAt Go.RowKit Go.Joins
open Go.ChangeMaps (open_string shut_string)
open Go.Proofs.YtcbhlghofihjcaaGreatDoor.G Go.Proofs.YtcbhlghofihjcaaGreatDoor.Opn
set_option linter.unusedVariables false
set_option linter.unusedSimpArgs false
theorem band_ {a b:Bool} (ha:a=true) (hb:b=true):(a && b)=true:=by rw [ha,hb];rfl
set_option maxHeartbeats 80000000 in
theorem over:Rows.fnChangedFieldsRow.holds Tryz.pinned (OpenSpec.ofChange Rows.fnChangedFieldsSpec) :=
  OpenClaim.holds_of_wide 3 Tryz.f3 rfl rfl rfl rfl rfl rfl rfl ⟨rfl,rfl,rfl,rfl,rfl⟩ rfl rfl rfl rfl rfl (by kernel_rfl) Tryz.func3 (by unfold joinedFacts;repeat' (with_reducible apply band_);all_goals (as_aux_lemma=>kernel_rfl))
    (of_decide_eq_true (by kernel_rfl)) (by unfold Func.isWrapper;first|(rw [if_pos (by decide +kernel)];kernel_rfl)|(rw [if_neg (by decide +kernel)];exact ⟨rfl,rfl⟩))
    (fun os started H enc _=>lifted os started H enc)
theorem proved:Rows.FnChangedFieldsSaid:=over
end Go.Proofs.YtcbhlghofihjcaaGreatDoor.fnChangedFields
