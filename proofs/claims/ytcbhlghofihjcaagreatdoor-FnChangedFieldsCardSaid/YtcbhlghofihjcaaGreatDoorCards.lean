/-
  DERIVED. GIVEN WITH THE SEED: THE CARDS: each row of YtcbhlghofihjcaaGreatDoorRows.lean that lists a variable, with what it lists TIED to the program's text (the seventh form; the later family's looks); each row that meets fmt, with fmt's text TOLD by the authors' own Lean function (tested against real Go, not proved from fmt's source: count such statements apart). THE CARD IS WHAT COUNTS. Prove the row's statement (the work); the ties are given (YtcbhlghofihjcaaGreatDoorTie.lean); close each card by the builder's one call (the guide's Derived/Test/ToyasCard.lean, 'card_holds'). Laid BY PROGRAM, IN A SANDBOX (cutbox-door.mjs). By AI agents, Wed Nov 11 2026. No macro, syntax, notation, axiom, sorry.
-/
import Derived.Test.YtcbhlghofihjcaaGreatDoorRows
import GoSem.ClaimSeven
namespace Go.Proofs.YtcbhlghofihjcaaGreatDoor
namespace Rows

/-- THE TIED CARD OF 'laws.FnChangedFields'. -/
def fnChangedFieldsCard : Claim7 := { stood := { row := fnChangedFieldsRow, standIns := [], harness := (true, "a6962aee405cc16c6cd2fd0083e42997496c9f29c26e59175d9adf3bfd9a05e1"), looks := false }, kinds := [], alts := [], laidByText := true, laidKinds := [.data, .data, .data, .data, .widerDeep, .pinned], laidTests := true, laidLooks := .later }
def FnChangedFieldsCardSaid : Prop := Claim7.holds Tryz.pinned (.plain (OpenSpec.ofChange fnChangedFieldsSpec)) fnChangedFieldsCard

/-- THE SECOND FORM's CARD OF 'laws.FnChangedFields'. -/
def fnChangedFieldsUptoCard : Claim7 := { stood := { row := fnChangedFieldsUptoRow, standIns := [], harness := (true, "a6962aee405cc16c6cd2fd0083e42997496c9f29c26e59175d9adf3bfd9a05e1"), looks := false }, kinds := [], alts := [], laidByText := true, laidKinds := [.data, .data, .data, .data, .widerDeep, .pinned], laidTests := true, laidLooks := .later }
def FnChangedFieldsUptoCardSaid : Prop := Claim7.holds Tryz.pinned (.plain (OpenSpec.upto fnChangedFieldsSpec)) fnChangedFieldsUptoCard
end Rows
end Go.Proofs.YtcbhlghofihjcaaGreatDoor
