/- Of the law FnNameForms: the walk under the row's condition, the row, or its card; no condition. -/
import Derived.Test.YtgingnbfihaopaaDoorKFnNameFormsb
namespace Go.Proofs.YtgingnbfihaopaaDoor.fnNameForms
open Go.ChangeShapes Go.WideShapes Go.ChangeAt Go.RowKit Go.Joins
open Go.ChangeMaps (open_string shut_string)
open Go.Proofs.YtgingnbfihaopaaDoor.G Go.Proofs.YtgingnbfihaopaaDoor.Opn
set_option linter.unusedVariables false
set_option linter.unusedSimpArgs false
theorem cardly : Rows.FnNameFormsCardSaid :=
  Claim7.holds_tied_plain_at .later [] [.data, .pinned] true (true, "6163663b1f29f242aa9b0e5bebb69b60d7c91d551c5bb3137b8ef7ec8d6585ea") false proved (fun _ h => by cases h) (by kernel_rfl) (fun _ h => by cases h) Go.Proofs.YtgingnbfihaopaaDoor.fnNameForms_row_tie rfl ⟨rfl, rfl⟩ (by kernel_rfl) rfl
    (fun f fn hf hfn => by
      obtain rfl : f = 3 := Option.some.inj ((show Tryd.prog.funcNamed "loop.example/g00896/laws.FnNameForms" = some 3 by kernel_rfl).symm.trans hf) |>.symm
      obtain rfl : fn = Tryd.f3 := (Option.some.inj (Tryd.func3.symm.trans hfn)).symm
      exact ⟨by kernel_rfl, fun j t ht => by
        rw [Tryd.params3] at ht
        have hm : t ∈ [22] := by simpa using Array.mem_of_getElem? ht
        have hall : ([22].all fun u => !Tryd.prog.wantsStandIn u) = true := by kernel_rfl
        exact (show Tryd.prog.wantsStandIn t = false by simpa using List.all_eq_true.1 hall t hm)⟩)
    (by kernel_rfl)
#print axioms cardly
end Go.Proofs.YtgingnbfihaopaaDoor.fnNameForms
namespace Go.Proofs.YtgingnbfihaopaaDoor
/-- The row, under a short name, for the claim. -/
theorem fnNameForms_holds : Rows.FnNameFormsCardSaid := fnNameForms.cardly
end Go.Proofs.YtgingnbfihaopaaDoor
