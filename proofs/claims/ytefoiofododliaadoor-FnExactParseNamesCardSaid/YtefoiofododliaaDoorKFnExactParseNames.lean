/- Of the law FnExactParseNames: the walk under the row's condition, the row, or its card; no condition. -/
import Derived.Test.YtefoiofododliaaDoorKFnExactParseNamesb
namespace Go.Proofs.YtefoiofododliaaDoor.fnExactParseNames
open Go.ChangeShapes Go.WideShapes Go.ChangeAt Go.RowKit Go.Joins
open Go.ChangeMaps (open_string shut_string)
open Go.Proofs.YtefoiofododliaaDoor.G Go.Proofs.YtefoiofododliaaDoor.Opn
set_option linter.unusedVariables false
set_option linter.unusedSimpArgs false
theorem cardly : Rows.FnExactParseNamesCardSaid :=
  Claim7.holds_tied_plain_at .later [] [.data, .pinned] true (true, "299da639401028dfd1e2de9137bda3a38f5031707add4486e40c01fd746669b1") false proved (fun _ h => by cases h) (by kernel_rfl) (fun _ h => by cases h) Go.Proofs.YtefoiofododliaaDoor.fnExactParseNames_row_tie rfl ⟨rfl, rfl⟩ (by kernel_rfl) rfl
    (fun f fn hf hfn => by
      obtain rfl : f = 3 := Option.some.inj ((show Tryd.prog.funcNamed "loop.example/g00896/laws.FnExactParseNames" = some 3 by kernel_rfl).symm.trans hf) |>.symm
      obtain rfl : fn = Tryd.f3 := (Option.some.inj (Tryd.func3.symm.trans hfn)).symm
      exact ⟨by kernel_rfl, fun j t ht => by
        rw [Tryd.params3] at ht
        have hm : t ∈ [9] := by simpa using Array.mem_of_getElem? ht
        have hall : ([9].all fun u => !Tryd.prog.wantsStandIn u) = true := by kernel_rfl
        exact (show Tryd.prog.wantsStandIn t = false by simpa using List.all_eq_true.1 hall t hm)⟩)
    (by kernel_rfl)
#print axioms cardly
end Go.Proofs.YtefoiofododliaaDoor.fnExactParseNames
namespace Go.Proofs.YtefoiofododliaaDoor
/-- The row, under a short name, for the claim. -/
theorem fnExactParseNames_holds : Rows.FnExactParseNamesCardSaid := fnExactParseNames.cardly
end Go.Proofs.YtefoiofododliaaDoor
