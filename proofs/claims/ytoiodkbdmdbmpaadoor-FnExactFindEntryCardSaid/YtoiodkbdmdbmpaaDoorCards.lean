/-
  DERIVED. GIVEN WITH THE SEED: THE CARDS: each row of YtoiodkbdmdbmpaaDoorRows.lean that lists a variable, with what it lists TIED to the program's text (the seventh form; the later family's looks); each row that meets fmt, with fmt's text TOLD by the authors' own Lean function (tested against real Go, not proved from fmt's source: count such statements apart). THE CARD IS WHAT COUNTS. Prove the row's statement (the work); the ties are given (YtoiodkbdmdbmpaaDoorTie.lean); close each card by the builder's one call (the guide's Derived/Test/ToyasCard.lean, 'card_holds'). Laid BY PROGRAM, IN A SANDBOX (cutbox-door.mjs). By AI agents, Wed Nov 11 2026. No macro, syntax, notation, axiom, sorry.
-/
import Derived.Test.YtoiodkbdmdbmpaaDoorRows
import GoSem.ClaimSeven
namespace Go.Proofs.YtoiodkbdmdbmpaaDoor
namespace Rows

/-- THE TIED CARD OF 'laws.FnExactFindEntry'. -/
def fnExactFindEntryCard : Claim7 := { stood := { row := fnExactFindEntryRow, standIns := [], harness := (true, "d0202f1c68cbf46bd4d851dc941534d30c33630801fcb73212d8f988f7815b08"), looks := false }, kinds := [], alts := [], laidByText := true, laidKinds := [.data, .pinned], laidTests := true, laidLooks := .later }
def FnExactFindEntryCardSaid : Prop := Claim7.holds Tryd.pinned (.plain (OpenSpec.ofChange fnExactFindEntrySpec)) fnExactFindEntryCard

/-- THE TIED CARD OF 'laws.FnExactEntriesOfKind'. -/
def fnExactEntriesOfKindCard : Claim7 := { stood := { row := fnExactEntriesOfKindRow, standIns := [], harness := (true, "d0202f1c68cbf46bd4d851dc941534d30c33630801fcb73212d8f988f7815b08"), looks := false }, kinds := [], alts := [], laidByText := true, laidKinds := [.data, .pinned], laidTests := true, laidLooks := .later }
def FnExactEntriesOfKindCardSaid : Prop := Claim7.holds Tryd.pinned (.plain (OpenSpec.ofChange fnExactEntriesOfKindSpec)) fnExactEntriesOfKindCard

/-- THE SECOND FORM's CARD OF 'laws.FnExactFindEntry'. -/
def fnExactFindEntryUptoCard : Claim7 := { stood := { row := fnExactFindEntryUptoRow, standIns := [], harness := (true, "d0202f1c68cbf46bd4d851dc941534d30c33630801fcb73212d8f988f7815b08"), looks := false }, kinds := [], alts := [], laidByText := true, laidKinds := [.data, .pinned], laidTests := true, laidLooks := .later }
def FnExactFindEntryUptoCardSaid : Prop := Claim7.holds Tryd.pinned (.plain (OpenSpec.upto fnExactFindEntrySpec)) fnExactFindEntryUptoCard

/-- THE SECOND FORM's CARD OF 'laws.FnExactEntriesOfKind'. -/
def fnExactEntriesOfKindUptoCard : Claim7 := { stood := { row := fnExactEntriesOfKindUptoRow, standIns := [], harness := (true, "d0202f1c68cbf46bd4d851dc941534d30c33630801fcb73212d8f988f7815b08"), looks := false }, kinds := [], alts := [], laidByText := true, laidKinds := [.data, .pinned], laidTests := true, laidLooks := .later }
def FnExactEntriesOfKindUptoCardSaid : Prop := Claim7.holds Tryd.pinned (.plain (OpenSpec.upto fnExactEntriesOfKindSpec)) fnExactEntriesOfKindUptoCard
end Rows
end Go.Proofs.YtoiodkbdmdbmpaaDoor
