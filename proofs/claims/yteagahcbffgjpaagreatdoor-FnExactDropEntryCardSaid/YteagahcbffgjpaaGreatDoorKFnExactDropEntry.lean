/- Of the law FnExactDropEntry: the walk under the row's condition, the row, or its card; no condition. -/
import Derived.Test.YteagahcbffgjpaaGreatDoorKFnExactDropEntryb
namespace Go.Proofs.YteagahcbffgjpaaGreatDoor.fnExactDropEntry
open Go.ChangeShapes Go.WideShapes Go.ChangeAt Go.RowKit Go.Joins
open Go.ChangeMaps (open_string shut_string)
open Go.Proofs.YteagahcbffgjpaaGreatDoor.G Go.Proofs.YteagahcbffgjpaaGreatDoor.Opn
set_option linter.unusedVariables false
set_option linter.unusedSimpArgs false
theorem cardly : Rows.FnExactDropEntryCardSaid :=
  Claim7.holds_tied_plain_at .later [] [.data, .pinned] true (true, "dfe712d3a75ef638e7545298bb266c5e878da0535264a29fe801600fd18790bd") false proved (fun _ h => by cases h) (by kernel_rfl) (fun _ h => by cases h) Go.Proofs.YteagahcbffgjpaaGreatDoor.fnExactDropEntry_row_tie rfl ⟨rfl, rfl⟩ (by kernel_rfl) rfl
    (fun f fn hf hfn => by
      obtain rfl : f = 3 := Option.some.inj ((show Tryz.prog.funcNamed "loop.example/g00896/laws.FnExactDropEntry" = some 3 by kernel_rfl).symm.trans hf) |>.symm
      obtain rfl : fn = Tryz.f3 := (Option.some.inj (Tryz.func3.symm.trans hfn)).symm
      exact ⟨by kernel_rfl, fun j t ht => by
        rw [Tryz.params3] at ht
        have hm : t ∈ [24, 9] := by simpa using Array.mem_of_getElem? ht
        have hall : ([24, 9].all fun u => !Tryz.prog.wantsStandIn u) = true := by kernel_rfl
        exact (show Tryz.prog.wantsStandIn t = false by simpa using List.all_eq_true.1 hall t hm)⟩)
    (by kernel_rfl)
#print axioms cardly
end Go.Proofs.YteagahcbffgjpaaGreatDoor.fnExactDropEntry
namespace Go.Proofs.YteagahcbffgjpaaGreatDoor
/-- The row, under a short name, for the claim. -/
theorem fnExactDropEntry_holds : Rows.FnExactDropEntryCardSaid := fnExactDropEntry.cardly
end Go.Proofs.YteagahcbffgjpaaGreatDoor
