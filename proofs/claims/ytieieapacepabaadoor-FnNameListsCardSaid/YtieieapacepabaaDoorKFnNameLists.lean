/- Of the law FnNameLists: the walk under the row's condition, the row, or its card; no condition. -/
import Derived.Test.YtieieapacepabaaDoorKFnNameListsb
namespace Go.Proofs.YtieieapacepabaaDoor.fnNameLists
open Go.ChangeShapes Go.WideShapes Go.ChangeAt Go.RowKit Go.Joins
open Go.ChangeMaps (open_string shut_string)
open Go.Proofs.YtieieapacepabaaDoor.G Go.Proofs.YtieieapacepabaaDoor.Opn
set_option linter.unusedVariables false
set_option linter.unusedSimpArgs false
theorem cardly : Rows.FnNameListsCardSaid :=
  Claim7.holds_tied_plain_at .later [] [.data, .pinned] true (true, "fba3ee52acc0ef7102dcb384f109b55b511278ff357a828500dddc93c9faebc7") false proved (fun _ h => by cases h) (by kernel_rfl) (fun _ h => by cases h) Go.Proofs.YtieieapacepabaaDoor.fnNameLists_row_tie rfl ⟨rfl, rfl⟩ (by kernel_rfl) rfl
    (fun f fn hf hfn => by
      obtain rfl : f = 4 := Option.some.inj ((show Tryd.prog.funcNamed "loop.example/g00896/laws.FnNameLists" = some 4 by kernel_rfl).symm.trans hf) |>.symm
      obtain rfl : fn = Tryd.f4 := (Option.some.inj (Tryd.func4.symm.trans hfn)).symm
      exact ⟨by kernel_rfl, fun j t ht => by
        rw [Tryd.params4] at ht
        have hm : t ∈ [22] := by simpa using Array.mem_of_getElem? ht
        have hall : ([22].all fun u => !Tryd.prog.wantsStandIn u) = true := by kernel_rfl
        exact (show Tryd.prog.wantsStandIn t = false by simpa using List.all_eq_true.1 hall t hm)⟩)
    (by kernel_rfl)
#print axioms cardly
end Go.Proofs.YtieieapacepabaaDoor.fnNameLists
namespace Go.Proofs.YtieieapacepabaaDoor
/-- The row, under a short name, for the claim. -/
theorem fnNameLists_holds : Rows.FnNameListsCardSaid := fnNameLists.cardly
end Go.Proofs.YtieieapacepabaaDoor
