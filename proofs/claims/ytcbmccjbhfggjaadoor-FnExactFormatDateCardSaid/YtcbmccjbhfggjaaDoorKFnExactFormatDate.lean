/- Of the law FnExactFormatDate: the walk under the row's condition, the row, or its card; no condition. -/
import Derived.Test.YtcbmccjbhfggjaaDoorKFnExactFormatDateb
namespace Go.Proofs.YtcbmccjbhfggjaaDoor.fnExactFormatDate
open Go.ChangeShapes Go.WideShapes Go.ChangeAt Go.RowKit Go.Joins
open Go.ChangeMaps (open_string shut_string)
open Go.Proofs.YtcbmccjbhfggjaaDoor.G Go.Proofs.YtcbmccjbhfggjaaDoor.Opn
set_option linter.unusedVariables false
set_option linter.unusedSimpArgs false
theorem cardly : Rows.FnExactFormatDateCardSaid :=
  Claim7.holds_tied_plain_at .later [] [.data, .data, .data] true (true, "bd78b602c355bb3e9360bdac10e1898cfdbfa38c0b63e9297f509d319e3916c2") true proved (fun _ h => by cases h) (by kernel_rfl) (fun _ h => by cases h) Go.Proofs.YtcbmccjbhfggjaaDoor.fnExactFormatDate_row_tie rfl ⟨rfl, rfl⟩ (by kernel_rfl) rfl
    (fun f fn hf hfn => by
      obtain rfl : f = 4 := Option.some.inj ((show Tryd.prog.funcNamed "loop.example/g00896/laws.FnExactFormatDate" = some 4 by kernel_rfl).symm.trans hf) |>.symm
      obtain rfl : fn = Tryd.f4 := (Option.some.inj (Tryd.func4.symm.trans hfn)).symm
      exact ⟨by kernel_rfl, fun j t ht => by
        rw [Tryd.params4] at ht
        have hm : t ∈ [26] := by simpa using Array.mem_of_getElem? ht
        have hall : ([26].all fun u => !Tryd.prog.wantsStandIn u) = true := by kernel_rfl
        exact (show Tryd.prog.wantsStandIn t = false by simpa using List.all_eq_true.1 hall t hm)⟩)
    (by kernel_rfl)
#print axioms cardly
end Go.Proofs.YtcbmccjbhfggjaaDoor.fnExactFormatDate
namespace Go.Proofs.YtcbmccjbhfggjaaDoor
/-- The row, under a short name, for the claim. -/
theorem fnExactFormatDate_holds : Rows.FnExactFormatDateCardSaid := fnExactFormatDate.cardly
end Go.Proofs.YtcbmccjbhfggjaaDoor
