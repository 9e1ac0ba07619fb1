/-
  DERIVED. GIVEN WITH THE SEED: THE CARDS: each row of YtcckamdpncbkoabDoorRows.lean that lists a variable, with what it lists TIED to the program's text (the seventh form; the later family's looks); each row that meets fmt, with fmt's text TOLD by the authors' own Lean function (tested against real Go, not proved from fmt's source: count such statements apart). THE CARD IS WHAT COUNTS. Prove the row's statement (the work); the ties are given (YtcckamdpncbkoabDoorTie.lean); close each card by the builder's one call (the guide's Derived/Test/ToyasCard.lean, 'card_holds'). Laid BY PROGRAM, IN A SANDBOX (cutbox-door.mjs). By AI agents, Wed Nov 11 2026. No macro, syntax, notation, axiom, sorry.
-/
import Derived.Test.YtcckamdpncbkoabDoorRows
import GoSem.ClaimSeven
namespace Go.Proofs.YtcckamdpncbkoabDoor
namespace Rows

/-- THE TIED CARD OF 'laws.FnExactJoinNames'. -/
def fnExactJoinNamesCard : Claim7 := { stood := { row := fnExactJoinNamesRow, standIns := [], harness := (true, "35d29435c341163ee31452f6cc9f191292bb66b419e91da0c8d4d0eb07eb6ef7"), looks := false }, kinds := [], alts := [], laidByText := true, laidKinds := [.data, .pinned], laidTests := true, laidLooks := .later }
def FnExactJoinNamesCardSaid : Prop := Claim7.holds Tryd.pinned (.plain (OpenSpec.ofChange fnExactJoinNamesSpec)) fnExactJoinNamesCard

/-- THE TIED CARD OF 'laws.FnNameForms'. -/
def fnNameFormsCard : Claim7 := { stood := { row := fnNameFormsRow, standIns := [], harness := (true, "35d29435c341163ee31452f6cc9f191292bb66b419e91da0c8d4d0eb07eb6ef7"), looks := false }, kinds := [], alts := [], laidByText := true, laidKinds := [.data, .pinned], laidTests := true, laidLooks := .later }
def FnNameFormsCardSaid : Prop := Claim7.holds Tryd.pinned (.plain (OpenSpec.ofChange fnNameFormsSpec)) fnNameFormsCard

/-- THE TIED CARD OF 'laws.FnExactParseNames'. -/
def fnExactParseNamesCard : Claim7 := { stood := { row := fnExactParseNamesRow, standIns := [], harness := (true, "35d29435c341163ee31452f6cc9f191292bb66b419e91da0c8d4d0eb07eb6ef7"), looks := false }, kinds := [], alts := [], laidByText := true, laidKinds := [.data, .pinned], laidTests := true, laidLooks := .later }
def FnExactParseNamesCardSaid : Prop := Claim7.holds Tryd.pinned (.plain (OpenSpec.ofChange fnExactParseNamesSpec)) fnExactParseNamesCard

/-- THE TIED CARD OF 'laws.FnNameOrder'. -/
def fnNameOrderCard : Claim7 := { stood := { row := fnNameOrderRow, standIns := [], harness := (true, "35d29435c341163ee31452f6cc9f191292bb66b419e91da0c8d4d0eb07eb6ef7"), looks := false }, kinds := [], alts := [], laidByText := true, laidKinds := [.data, .pinned], laidTests := true, laidLooks := .later }
def FnNameOrderCardSaid : Prop := Claim7.holds Tryd.pinned (.plain (OpenSpec.ofChange fnNameOrderSpec)) fnNameOrderCard

/-- THE TIED CARD OF 'laws.FnNameLists'. -/
def fnNameListsCard : Claim7 := { stood := { row := fnNameListsRow, standIns := [], harness := (true, "35d29435c341163ee31452f6cc9f191292bb66b419e91da0c8d4d0eb07eb6ef7"), looks := false }, kinds := [], alts := [], laidByText := true, laidKinds := [.data, .pinned], laidTests := true, laidLooks := .later }
def FnNameListsCardSaid : Prop := Claim7.holds Tryd.pinned (.plain (OpenSpec.ofChange fnNameListsSpec)) fnNameListsCard

/-- THE TIED CARD OF 'laws.FnExactIsValidEntry'. -/
def fnExactIsValidEntryCard : Claim7 := { stood := { row := fnExactIsValidEntryRow, standIns := [], harness := (true, "35d29435c341163ee31452f6cc9f191292bb66b419e91da0c8d4d0eb07eb6ef7"), looks := false }, kinds := [], alts := [], laidByText := true, laidKinds := [.data, .pinned], laidTests := true, laidLooks := .later }
def FnExactIsValidEntryCardSaid : Prop := Claim7.holds Tryd.pinned (.plain (OpenSpec.ofChange fnExactIsValidEntrySpec)) fnExactIsValidEntryCard

/-- THE TIED CARD OF 'laws.FnExactIsValidLibrary'. -/
def fnExactIsValidLibraryCard : Claim7 := { stood := { row := fnExactIsValidLibraryRow, standIns := [], harness := (true, "35d29435c341163ee31452f6cc9f191292bb66b419e91da0c8d4d0eb07eb6ef7"), looks := false }, kinds := [], alts := [], laidByText := true, laidKinds := [.data, .pinned], laidTests := true, laidLooks := .later }
def FnExactIsValidLibraryCardSaid : Prop := Claim7.holds Tryd.pinned (.plain (OpenSpec.ofChange fnExactIsValidLibrarySpec)) fnExactIsValidLibraryCard

/-- THE TIED CARD OF 'laws.FnExactFindEntry'. -/
def fnExactFindEntryCard : Claim7 := { stood := { row := fnExactFindEntryRow, standIns := [], harness := (true, "35d29435c341163ee31452f6cc9f191292bb66b419e91da0c8d4d0eb07eb6ef7"), looks := false }, kinds := [], alts := [], laidByText := true, laidKinds := [.data, .pinned], laidTests := true, laidLooks := .later }
def FnExactFindEntryCardSaid : Prop := Claim7.holds Tryd.pinned (.plain (OpenSpec.ofChange fnExactFindEntrySpec)) fnExactFindEntryCard

/-- THE TIED CARD OF 'laws.FnExactEntriesOfKind'. -/
def fnExactEntriesOfKindCard : Claim7 := { stood := { row := fnExactEntriesOfKindRow, standIns := [], harness := (true, "35d29435c341163ee31452f6cc9f191292bb66b419e91da0c8d4d0eb07eb6ef7"), looks := false }, kinds := [], alts := [], laidByText := true, laidKinds := [.data, .pinned], laidTests := true, laidLooks := .later }
def FnExactEntriesOfKindCardSaid : Prop := Claim7.holds Tryd.pinned (.plain (OpenSpec.ofChange fnExactEntriesOfKindSpec)) fnExactEntriesOfKindCard

/-- THE SECOND FORM's CARD OF 'laws.FnExactJoinNames'. -/
def fnExactJoinNamesUptoCard : Claim7 := { stood := { row := fnExactJoinNamesUptoRow, standIns := [], harness := (true, "35d29435c341163ee31452f6cc9f191292bb66b419e91da0c8d4d0eb07eb6ef7"), looks := false }, kinds := [], alts := [], laidByText := true, laidKinds := [.data, .pinned], laidTests := true, laidLooks := .later }
def FnExactJoinNamesUptoCardSaid : Prop := Claim7.holds Tryd.pinned (.plain (OpenSpec.upto fnExactJoinNamesSpec)) fnExactJoinNamesUptoCard

/-- THE SECOND FORM's CARD OF 'laws.FnNameForms'. -/
def fnNameFormsUptoCard : Claim7 := { stood := { row := fnNameFormsUptoRow, standIns := [], harness := (true, "35d29435c341163ee31452f6cc9f191292bb66b419e91da0c8d4d0eb07eb6ef7"), looks := false }, kinds := [], alts := [], laidByText := true, laidKinds := [.data, .pinned], laidTests := true, laidLooks := .later }
def FnNameFormsUptoCardSaid : Prop := Claim7.holds Tryd.pinned (.plain (OpenSpec.upto fnNameFormsSpec)) fnNameFormsUptoCard

/-- THE SECOND FORM's CARD OF 'laws.FnExactParseNames'. -/
def fnExactParseNamesUptoCard : Claim7 := { stood := { row := fnExactParseNamesUptoRow, standIns := [], harness := (true, "35d29435c341163ee31452f6cc9f191292bb66b419e91da0c8d4d0eb07eb6ef7"), looks := false }, kinds := [], alts := [], laidByText := true, laidKinds := [.data, .pinned], laidTests := true, laidLooks := .later }
def FnExactParseNamesUptoCardSaid : Prop := Claim7.holds Tryd.pinned (.plain (OpenSpec.upto fnExactParseNamesSpec)) fnExactParseNamesUptoCard

/-- THE SECOND FORM's CARD OF 'laws.FnNameOrder'. -/
def fnNameOrderUptoCard : Claim7 := { stood := { row := fnNameOrderUptoRow, standIns := [], harness := (true, "35d29435c341163ee31452f6cc9f191292bb66b419e91da0c8d4d0eb07eb6ef7"), looks := false }, kinds := [], alts := [], laidByText := true, laidKinds := [.data, .pinned], laidTests := true, laidLooks := .later }
def FnNameOrderUptoCardSaid : Prop := Claim7.holds Tryd.pinned (.plain (OpenSpec.upto fnNameOrderSpec)) fnNameOrderUptoCard

/-- THE SECOND FORM's CARD OF 'laws.FnNameLists'. -/
def fnNameListsUptoCard : Claim7 := { stood := { row := fnNameListsUptoRow, standIns := [], harness := (true, "35d29435c341163ee31452f6cc9f191292bb66b419e91da0c8d4d0eb07eb6ef7"), looks := false }, kinds := [], alts := [], laidByText := true, laidKinds := [.data, .pinned], laidTests := true, laidLooks := .later }
def FnNameListsUptoCardSaid : Prop := Claim7.holds Tryd.pinned (.plain (OpenSpec.upto fnNameListsSpec)) fnNameListsUptoCard

/-- THE SECOND FORM's CARD OF 'laws.FnExactIsValidEntry'. -/
def fnExactIsValidEntryUptoCard : Claim7 := { stood := { row := fnExactIsValidEntryUptoRow, standIns := [], harness := (true, "35d29435c341163ee31452f6cc9f191292bb66b419e91da0c8d4d0eb07eb6ef7"), looks := false }, kinds := [], alts := [], laidByText := true, laidKinds := [.data, .pinned], laidTests := true, laidLooks := .later }
def FnExactIsValidEntryUptoCardSaid : Prop := Claim7.holds Tryd.pinned (.plain (OpenSpec.upto fnExactIsValidEntrySpec)) fnExactIsValidEntryUptoCard

/-- THE SECOND FORM's CARD OF 'laws.FnExactIsValidLibrary'. -/
def fnExactIsValidLibraryUptoCard : Claim7 := { stood := { row := fnExactIsValidLibraryUptoRow, standIns := [], harness := (true, "35d29435c341163ee31452f6cc9f191292bb66b419e91da0c8d4d0eb07eb6ef7"), looks := false }, kinds := [], alts := [], laidByText := true, laidKinds := [.data, .pinned], laidTests := true, laidLooks := .later }
def FnExactIsValidLibraryUptoCardSaid : Prop := Claim7.holds Tryd.pinned (.plain (OpenSpec.upto fnExactIsValidLibrarySpec)) fnExactIsValidLibraryUptoCard

/-- THE SECOND FORM's CARD OF 'laws.FnExactFindEntry'. -/
def fnExactFindEntryUptoCard : Claim7 := { stood := { row := fnExactFindEntryUptoRow, standIns := [], harness := (true, "35d29435c341163ee31452f6cc9f191292bb66b419e91da0c8d4d0eb07eb6ef7"), looks := false }, kinds := [], alts := [], laidByText := true, laidKinds := [.data, .pinned], laidTests := true, laidLooks := .later }
def FnExactFindEntryUptoCardSaid : Prop := Claim7.holds Tryd.pinned (.plain (OpenSpec.upto fnExactFindEntrySpec)) fnExactFindEntryUptoCard

/-- THE SECOND FORM's CARD OF 'laws.FnExactEntriesOfKind'. -/
def fnExactEntriesOfKindUptoCard : Claim7 := { stood := { row := fnExactEntriesOfKindUptoRow, standIns := [], harness := (true, "35d29435c341163ee31452f6cc9f191292bb66b419e91da0c8d4d0eb07eb6ef7"), looks := false }, kinds := [], alts := [], laidByText := true, laidKinds := [.data, .pinned], laidTests := true, laidLooks := .later }
def FnExactEntriesOfKindUptoCardSaid : Prop := Claim7.holds Tryd.pinned (.plain (OpenSpec.upto fnExactEntriesOfKindSpec)) fnExactEntriesOfKindUptoCard
end Rows
end Go.Proofs.YtcckamdpncbkoabDoor
