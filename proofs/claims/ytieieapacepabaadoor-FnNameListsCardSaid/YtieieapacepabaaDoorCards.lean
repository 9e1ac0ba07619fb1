/-
  DERIVED. GIVEN WITH THE SEED: THE CARDS: each row of YtieieapacepabaaDoorRows.lean that lists a variable, with what it lists TIED to the program's text (the seventh form; the later family's looks); each row that meets fmt, with fmt's text TOLD by the authors' own Lean function (tested against real Go, not proved from fmt's source: count such statements apart). THE CARD IS WHAT COUNTS. Prove the row's statement (the work); the ties are given (YtieieapacepabaaDoorTie.lean); close each card by the builder's one call (the guide's Derived/Test/ToyasCard.lean, 'card_holds'). Laid BY PROGRAM, IN A SANDBOX (cutbox-door.mjs). By AI agents, Wed Nov 11 2026. No macro, syntax, notation, axiom, sorry.
-/
import Derived.Test.YtieieapacepabaaDoorRows
import GoSem.ClaimSeven
namespace Go.Proofs.YtieieapacepabaaDoor
namespace Rows

/-- THE TIED CARD OF 'laws.FnNameOrder'. -/
def fnNameOrderCard : Claim7 := { stood := { row := fnNameOrderRow, standIns := [], harness := (true, "fba3ee52acc0ef7102dcb384f109b55b511278ff357a828500dddc93c9faebc7"), looks := false }, kinds := [], alts := [], laidByText := true, laidKinds := [.data, .pinned], laidTests := true, laidLooks := .later }
def FnNameOrderCardSaid : Prop := Claim7.holds Tryd.pinned (.plain (OpenSpec.ofChange fnNameOrderSpec)) fnNameOrderCard

/-- THE TIED CARD OF 'laws.FnNameLists'. -/
def fnNameListsCard : Claim7 := { stood := { row := fnNameListsRow, standIns := [], harness := (true, "fba3ee52acc0ef7102dcb384f109b55b511278ff357a828500dddc93c9faebc7"), looks := false }, kinds := [], alts := [], laidByText := true, laidKinds := [.data, .pinned], laidTests := true, laidLooks := .later }
def FnNameListsCardSaid : Prop := Claim7.holds Tryd.pinned (.plain (OpenSpec.ofChange fnNameListsSpec)) fnNameListsCard

/-- THE SECOND FORM's CARD OF 'laws.FnNameOrder'. -/
def fnNameOrderUptoCard : Claim7 := { stood := { row := fnNameOrderUptoRow, standIns := [], harness := (true, "fba3ee52acc0ef7102dcb384f109b55b511278ff357a828500dddc93c9faebc7"), looks := false }, kinds := [], alts := [], laidByText := true, laidKinds := [.data, .pinned], laidTests := true, laidLooks := .later }
def FnNameOrderUptoCardSaid : Prop := Claim7.holds Tryd.pinned (.plain (OpenSpec.upto fnNameOrderSpec)) fnNameOrderUptoCard

/-- THE SECOND FORM's CARD OF 'laws.FnNameLists'. -/
def fnNameListsUptoCard : Claim7 := { stood := { row := fnNameListsUptoRow, standIns := [], harness := (true, "fba3ee52acc0ef7102dcb384f109b55b511278ff357a828500dddc93c9faebc7"), looks := false }, kinds := [], alts := [], laidByText := true, laidKinds := [.data, .pinned], laidTests := true, laidLooks := .later }
def FnNameListsUptoCardSaid : Prop := Claim7.holds Tryd.pinned (.plain (OpenSpec.upto fnNameListsSpec)) fnNameListsUptoCard
end Rows
end Go.Proofs.YtieieapacepabaaDoor
