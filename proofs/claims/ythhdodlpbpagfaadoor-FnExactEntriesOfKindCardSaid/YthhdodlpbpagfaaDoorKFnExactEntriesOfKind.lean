/- Of the law FnExactEntriesOfKind: the walk under the row's condition, the row, or its card; no condition. -/
import Derived.Test.YthhdodlpbpagfaaDoorKFnExactEntriesOfKindb
namespace Go.Proofs.YthhdodlpbpagfaaDoor.fnExactEntriesOfKind
open Go.ChangeShapes Go.WideShapes Go.ChangeAt Go.RowKit Go.Joins
open Go.ChangeMaps (open_string shut_string)
open Go.Proofs.YthhdodlpbpagfaaDoor.G Go.Proofs.YthhdodlpbpagfaaDoor.Opn
set_option linter.unusedVariables false
set_option linter.unusedSimpArgs false
theorem cardly : Rows.FnExactEntriesOfKindCardSaid :=
  Claim7.holds_tied_plain_at .later [] [.data, .pinned] true (true, "17ca5034620b9a8da2c794be53ed742697bf035be1c94fb590607c28dba7443f") false proved (fun _ h => by cases h) (by kernel_rfl) (fun _ h => by cases h) Go.Proofs.YthhdodlpbpagfaaDoor.fnExactEntriesOfKind_row_tie rfl ⟨rfl, rfl⟩ (by kernel_rfl) rfl
    (fun f fn hf hfn => by
      obtain rfl : f = 3 := Option.some.inj ((show Tryd.prog.funcNamed "loop.example/g00896/laws.FnExactEntriesOfKind" = some 3 by kernel_rfl).symm.trans hf) |>.symm
      obtain rfl : fn = Tryd.f3 := (Option.some.inj (Tryd.func3.symm.trans hfn)).symm
      exact ⟨by kernel_rfl, fun j t ht => by
        rw [Tryd.params3] at ht
        have hm : t ∈ [24, 3] := by simpa using Array.mem_of_getElem? ht
        have hall : ([24, 3].all fun u => !Tryd.prog.wantsStandIn u) = true := by kernel_rfl
        exact (show Tryd.prog.wantsStandIn t = false by simpa using List.all_eq_true.1 hall t hm)⟩)
    (by kernel_rfl)
#print axioms cardly
end Go.Proofs.YthhdodlpbpagfaaDoor.fnExactEntriesOfKind
namespace Go.Proofs.YthhdodlpbpagfaaDoor
/-- The row, under a short name, for the claim. -/
theorem fnExactEntriesOfKind_holds : Rows.FnExactEntriesOfKindCardSaid := fnExactEntriesOfKind.cardly
end Go.Proofs.YthhdodlpbpagfaaDoor
