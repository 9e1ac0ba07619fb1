/-
  DERIVED. GIVEN WITH THE SEED: THE CARDS: each row of YtcnhdhfhofaocaaGreatDoorRows.lean that lists a variable, with what it lists TIED to the program's text (the seventh form; the later family's looks); each row that meets fmt, with fmt's text TOLD by the authors' own Lean function (tested against real Go, not proved from fmt's source: count such statements apart). THE CARD IS WHAT COUNTS. Prove the row's statement (the work); the ties are given (YtcnhdhfhofaocaaGreatDoorTie.lean); close each card by the builder's one call (the guide's Derived/Test/ToyasCard.lean, 'card_holds'). Laid BY PROGRAM, IN A SANDBOX (cutbox-door.mjs). By AI agents, Wed Nov 11 2026. No macro, syntax, notation, axiom, sorry.
-/
import Derived.Test.YtcnhdhfhofaocaaGreatDoorRows
import GoSem.ClaimSeven
namespace Go.Proofs.YtcnhdhfhofaocaaGreatDoor
namespace Rows

/-- THE TIED CARD OF 'laws.FnExactFieldText'. -/
def fnExactFieldTextCard : Claim7 := { stood := { row := fnExactFieldTextRow, standIns := [], harness := (true, "6f1aa1f6d6ae8e6ec360a847d9809ae6a329818703d858555e376bdd052e3b76"), looks := false }, kinds := [], alts := [], laidByText := true, laidKinds := [.data, .data, .data, .data, .widerDeep, .pinned], laidTests := true, laidLooks := .later }
def FnExactFieldTextCardSaid : Prop := Claim7.holds Tryz.pinned (.plain (OpenSpec.ofChange fnExactFieldTextSpec)) fnExactFieldTextCard

/-- THE TIED CARD OF 'laws.FnExactMissingFields'. -/
def fnExactMissingFieldsCard : Claim7 := { stood := { row := fnExactMissingFieldsRow, standIns := [], harness := (true, "6f1aa1f6d6ae8e6ec360a847d9809ae6a329818703d858555e376bdd052e3b76"), looks := false }, kinds := [], alts := [], laidByText := true, laidKinds := [.data, .data, .data, .data, .pinned], laidTests := true, laidLooks := .later }
def FnExactMissingFieldsCardSaid : Prop := Claim7.holds Tryz.pinned (.plain (OpenSpec.ofChange fnExactMissingFieldsSpec)) fnExactMissingFieldsCard

/-- THE TIED CARD OF 'laws.FnExactChangedFields'. -/
def fnExactChangedFieldsCard : Claim7 := { stood := { row := fnExactChangedFieldsRow, standIns := [], harness := (true, "6f1aa1f6d6ae8e6ec360a847d9809ae6a329818703d858555e376bdd052e3b76"), looks := false }, kinds := [], alts := [], laidByText := true, laidKinds := [.data, .data, .data, .data, .widerDeep, .pinned], laidTests := true, laidLooks := .later }
def FnExactChangedFieldsCardSaid : Prop := Claim7.holds Tryz.pinned (.plain (OpenSpec.ofChange fnExactChangedFieldsSpec)) fnExactChangedFieldsCard

/-- THE TIED CARD OF 'laws.FnChangedFields'. -/
def fnChangedFieldsCard : Claim7 := { stood := { row := fnChangedFieldsRow, standIns := [], harness := (true, "6f1aa1f6d6ae8e6ec360a847d9809ae6a329818703d858555e376bdd052e3b76"), looks := false }, kinds := [], alts := [], laidByText := true, laidKinds := [.data, .data, .data, .data, .widerDeep, .pinned], laidTests := true, laidLooks := .later }
def FnChangedFieldsCardSaid : Prop := Claim7.holds Tryz.pinned (.plain (OpenSpec.ofChange fnChangedFieldsSpec)) fnChangedFieldsCard

/-- THE SECOND FORM's CARD OF 'laws.FnExactFieldText'. -/
def fnExactFieldTextUptoCard : Claim7 := { stood := { row := fnExactFieldTextUptoRow, standIns := [], harness := (true, "6f1aa1f6d6ae8e6ec360a847d9809ae6a329818703d858555e376bdd052e3b76"), looks := false }, kinds := [], alts := [], laidByText := true, laidKinds := [.data, .data, .data, .data, .widerDeep, .pinned], laidTests := true, laidLooks := .later }
def FnExactFieldTextUptoCardSaid : Prop := Claim7.holds Tryz.pinned (.plain (OpenSpec.upto fnExactFieldTextSpec)) fnExactFieldTextUptoCard

/-- THE SECOND FORM's CARD OF 'laws.FnExactMissingFields'. -/
def fnExactMissingFieldsUptoCard : Claim7 := { stood := { row := fnExactMissingFieldsUptoRow, standIns := [], harness := (true, "6f1aa1f6d6ae8e6ec360a847d9809ae6a329818703d858555e376bdd052e3b76"), looks := false }, kinds := [], alts := [], laidByText := true, laidKinds := [.data, .data, .data, .data, .pinned], laidTests := true, laidLooks := .later }
def FnExactMissingFieldsUptoCardSaid : Prop := Claim7.holds Tryz.pinned (.plain (OpenSpec.upto fnExactMissingFieldsSpec)) fnExactMissingFieldsUptoCard

/-- THE SECOND FORM's CARD OF 'laws.FnExactChangedFields'. -/
def fnExactChangedFieldsUptoCard : Claim7 := { stood := { row := fnExactChangedFieldsUptoRow, standIns := [], harness := (true, "6f1aa1f6d6ae8e6ec360a847d9809ae6a329818703d858555e376bdd052e3b76"), looks := false }, kinds := [], alts := [], laidByText := true, laidKinds := [.data, .data, .data, .data, .widerDeep, .pinned], laidTests := true, laidLooks := .later }
def FnExactChangedFieldsUptoCardSaid : Prop := Claim7.holds Tryz.pinned (.plain (OpenSpec.upto fnExactChangedFieldsSpec)) fnExactChangedFieldsUptoCard

/-- THE SECOND FORM's CARD OF 'laws.FnChangedFields'. -/
def fnChangedFieldsUptoCard : Claim7 := { stood := { row := fnChangedFieldsUptoRow, standIns := [], harness := (true, "6f1aa1f6d6ae8e6ec360a847d9809ae6a329818703d858555e376bdd052e3b76"), looks := false }, kinds := [], alts := [], laidByText := true, laidKinds := [.data, .data, .data, .data, .widerDeep, .pinned], laidTests := true, laidLooks := .later }
def FnChangedFieldsUptoCardSaid : Prop := Claim7.holds Tryz.pinned (.plain (OpenSpec.upto fnChangedFieldsSpec)) fnChangedFieldsUptoCard
end Rows
end Go.Proofs.YtcnhdhfhofaocaaGreatDoor
