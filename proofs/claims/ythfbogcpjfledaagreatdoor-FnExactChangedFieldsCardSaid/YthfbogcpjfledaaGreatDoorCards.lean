/-
  DERIVED. GIVEN WITH THE SEED: THE CARDS: each row of YthfbogcpjfledaaGreatDoorRows.lean that lists a variable, with what it lists TIED to the program's text (the seventh form; the later family's looks); each row that meets fmt, with fmt's text TOLD by the authors' own Lean function (tested against real Go, not proved from fmt's source: count such statements apart). THE CARD IS WHAT COUNTS. Prove the row's statement (the work); the ties are given (YthfbogcpjfledaaGreatDoorTie.lean); close each card by the builder's one call (the guide's Derived/Test/ToyasCard.lean, 'card_holds'). Laid BY PROGRAM, IN A SANDBOX (cutbox-door.mjs). By AI agents, Wed Nov 11 2026. No macro, syntax, notation, axiom, sorry.
-/
import Derived.Test.YthfbogcpjfledaaGreatDoorRows
import GoSem.ClaimSeven
namespace Go.Proofs.YthfbogcpjfledaaGreatDoor
namespace Rows

/-- THE TIED CARD OF 'laws.FnExactChangedFields'. -/
def fnExactChangedFieldsCard : Claim7 := { stood := { row := fnExactChangedFieldsRow, standIns := [], harness := (true, "3e0fd818805c4d64f6269c3fa097e4863a1784edd2a095bf13f8a698fafd2a3f"), looks := false }, kinds := [], alts := [], laidByText := true, laidKinds := [.data, .data, .data, .data, .widerDeep, .pinned], laidTests := true, laidLooks := .later }
def FnExactChangedFieldsCardSaid : Prop := Claim7.holds Tryz.pinned (.plain (OpenSpec.ofChange fnExactChangedFieldsSpec)) fnExactChangedFieldsCard

/-- THE SECOND FORM's CARD OF 'laws.FnExactChangedFields'. -/
def fnExactChangedFieldsUptoCard : Claim7 := { stood := { row := fnExactChangedFieldsUptoRow, standIns := [], harness := (true, "3e0fd818805c4d64f6269c3fa097e4863a1784edd2a095bf13f8a698fafd2a3f"), looks := false }, kinds := [], alts := [], laidByText := true, laidKinds := [.data, .data, .data, .data, .widerDeep, .pinned], laidTests := true, laidLooks := .later }
def FnExactChangedFieldsUptoCardSaid : Prop := Claim7.holds Tryz.pinned (.plain (OpenSpec.upto fnExactChangedFieldsSpec)) fnExactChangedFieldsUptoCard
end Rows
end Go.Proofs.YthfbogcpjfledaaGreatDoor
