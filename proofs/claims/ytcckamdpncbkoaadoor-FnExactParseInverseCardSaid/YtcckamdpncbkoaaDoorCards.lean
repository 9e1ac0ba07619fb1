/-
  DERIVED. GIVEN WITH THE SEED: THE CARDS: each row of YtcckamdpncbkoaaDoorRows.lean that lists a variable, with what it lists TIED to the program's text (the seventh form; the later family's looks); each row that meets fmt, with fmt's text TOLD by the authors' own Lean function (tested against real Go, not proved from fmt's source: count such statements apart). THE CARD IS WHAT COUNTS. Prove the row's statement (the work); the ties are given (YtcckamdpncbkoaaDoorTie.lean); close each card by the builder's one call (the guide's Derived/Test/ToyasCard.lean, 'card_holds'). Laid BY PROGRAM, IN A SANDBOX (cutbox-door.mjs). By AI agents, Wed Nov 11 2026. No macro, syntax, notation, axiom, sorry.
-/
import Derived.Test.YtcckamdpncbkoaaDoorRows
import GoSem.ClaimSeven
namespace Go.Proofs.YtcckamdpncbkoaaDoor
namespace Rows

/-- THE TIED CARD OF 'laws.FnExactIsValidName'. -/
def fnExactIsValidNameCard : Claim7 := { stood := { row := fnExactIsValidNameRow, standIns := [], harness := (true, "8832c7b29ecade25c152abaedbb8d5a9446932021e04d1ad6d0715e10feae5da"), looks := false }, kinds := [], alts := [], laidByText := true, laidKinds := [.data, .pinned], laidTests := true, laidLooks := .later }
def FnExactIsValidNameCardSaid : Prop := Claim7.holds Tryd.pinned (.plain (OpenSpec.ofChange fnExactIsValidNameSpec)) fnExactIsValidNameCard

/-- THE TIED CARD OF 'laws.FnExactMayBeSame'. -/
def fnExactMayBeSameCard : Claim7 := { stood := { row := fnExactMayBeSameRow, standIns := [], harness := (true, "8832c7b29ecade25c152abaedbb8d5a9446932021e04d1ad6d0715e10feae5da"), looks := false }, kinds := [], alts := [], laidByText := true, laidKinds := [.data, .pinned], laidTests := true, laidLooks := .later }
def FnExactMayBeSameCardSaid : Prop := Claim7.holds Tryd.pinned (.plain (OpenSpec.ofChange fnExactMayBeSameSpec)) fnExactMayBeSameCard

/-- THE TIED CARD OF 'laws.FnExactSamePeople'. -/
def fnExactSamePeopleCard : Claim7 := { stood := { row := fnExactSamePeopleRow, standIns := [], harness := (true, "8832c7b29ecade25c152abaedbb8d5a9446932021e04d1ad6d0715e10feae5da"), looks := false }, kinds := [], alts := [], laidByText := true, laidKinds := [.data, .pinned], laidTests := true, laidLooks := .later }
def FnExactSamePeopleCardSaid : Prop := Claim7.holds Tryd.pinned (.plain (OpenSpec.ofChange fnExactSamePeopleSpec)) fnExactSamePeopleCard

/-- THE TIED CARD OF 'laws.FnExactFullForm'. -/
def fnExactFullFormCard : Claim7 := { stood := { row := fnExactFullFormRow, standIns := [], harness := (true, "8832c7b29ecade25c152abaedbb8d5a9446932021e04d1ad6d0715e10feae5da"), looks := false }, kinds := [], alts := [], laidByText := true, laidKinds := [.data, .pinned], laidTests := true, laidLooks := .later }
def FnExactFullFormCardSaid : Prop := Claim7.holds Tryd.pinned (.plain (OpenSpec.ofChange fnExactFullFormSpec)) fnExactFullFormCard

/-- THE TIED CARD OF 'laws.FnExactInitialsOf'. -/
def fnExactInitialsOfCard : Claim7 := { stood := { row := fnExactInitialsOfRow, standIns := [], harness := (true, "8832c7b29ecade25c152abaedbb8d5a9446932021e04d1ad6d0715e10feae5da"), looks := false }, kinds := [], alts := [], laidByText := true, laidKinds := [.data, .pinned], laidTests := true, laidLooks := .later }
def FnExactInitialsOfCardSaid : Prop := Claim7.holds Tryd.pinned (.plain (OpenSpec.ofChange fnExactInitialsOfSpec)) fnExactInitialsOfCard

/-- THE TIED CARD OF 'laws.FnExactInverseForm'. -/
def fnExactInverseFormCard : Claim7 := { stood := { row := fnExactInverseFormRow, standIns := [], harness := (true, "8832c7b29ecade25c152abaedbb8d5a9446932021e04d1ad6d0715e10feae5da"), looks := false }, kinds := [], alts := [], laidByText := true, laidKinds := [.data, .pinned], laidTests := true, laidLooks := .later }
def FnExactInverseFormCardSaid : Prop := Claim7.holds Tryd.pinned (.plain (OpenSpec.ofChange fnExactInverseFormSpec)) fnExactInverseFormCard

/-- THE TIED CARD OF 'laws.FnExactParseInverse'. -/
def fnExactParseInverseCard : Claim7 := { stood := { row := fnExactParseInverseRow, standIns := [], harness := (true, "8832c7b29ecade25c152abaedbb8d5a9446932021e04d1ad6d0715e10feae5da"), looks := false }, kinds := [], alts := [], laidByText := true, laidKinds := [.data, .pinned], laidTests := true, laidLooks := .later }
def FnExactParseInverseCardSaid : Prop := Claim7.holds Tryd.pinned (.plain (OpenSpec.ofChange fnExactParseInverseSpec)) fnExactParseInverseCard

/-- THE TIED CARD OF 'laws.FnExactShortForm'. -/
def fnExactShortFormCard : Claim7 := { stood := { row := fnExactShortFormRow, standIns := [], harness := (true, "8832c7b29ecade25c152abaedbb8d5a9446932021e04d1ad6d0715e10feae5da"), looks := false }, kinds := [], alts := [], laidByText := true, laidKinds := [.data, .pinned], laidTests := true, laidLooks := .later }
def FnExactShortFormCardSaid : Prop := Claim7.holds Tryd.pinned (.plain (OpenSpec.ofChange fnExactShortFormSpec)) fnExactShortFormCard

/-- THE TIED CARD OF 'laws.FnExactCompareNames'. -/
def fnExactCompareNamesCard : Claim7 := { stood := { row := fnExactCompareNamesRow, standIns := [], harness := (true, "8832c7b29ecade25c152abaedbb8d5a9446932021e04d1ad6d0715e10feae5da"), looks := false }, kinds := [], alts := [], laidByText := true, laidKinds := [.data, .pinned], laidTests := true, laidLooks := .later }
def FnExactCompareNamesCardSaid : Prop := Claim7.holds Tryd.pinned (.plain (OpenSpec.ofChange fnExactCompareNamesSpec)) fnExactCompareNamesCard

/-- THE SECOND FORM's CARD OF 'laws.FnExactIsValidName'. -/
def fnExactIsValidNameUptoCard : Claim7 := { stood := { row := fnExactIsValidNameUptoRow, standIns := [], harness := (true, "8832c7b29ecade25c152abaedbb8d5a9446932021e04d1ad6d0715e10feae5da"), looks := false }, kinds := [], alts := [], laidByText := true, laidKinds := [.data, .pinned], laidTests := true, laidLooks := .later }
def FnExactIsValidNameUptoCardSaid : Prop := Claim7.holds Tryd.pinned (.plain (OpenSpec.upto fnExactIsValidNameSpec)) fnExactIsValidNameUptoCard

/-- THE SECOND FORM's CARD OF 'laws.FnExactMayBeSame'. -/
def fnExactMayBeSameUptoCard : Claim7 := { stood := { row := fnExactMayBeSameUptoRow, standIns := [], harness := (true, "8832c7b29ecade25c152abaedbb8d5a9446932021e04d1ad6d0715e10feae5da"), looks := false }, kinds := [], alts := [], laidByText := true, laidKinds := [.data, .pinned], laidTests := true, laidLooks := .later }
def FnExactMayBeSameUptoCardSaid : Prop := Claim7.holds Tryd.pinned (.plain (OpenSpec.upto fnExactMayBeSameSpec)) fnExactMayBeSameUptoCard

/-- THE SECOND FORM's CARD OF 'laws.FnExactSamePeople'. -/
def fnExactSamePeopleUptoCard : Claim7 := { stood := { row := fnExactSamePeopleUptoRow, standIns := [], harness := (true, "8832c7b29ecade25c152abaedbb8d5a9446932021e04d1ad6d0715e10feae5da"), looks := false }, kinds := [], alts := [], laidByText := true, laidKinds := [.data, .pinned], laidTests := true, laidLooks := .later }
def FnExactSamePeopleUptoCardSaid : Prop := Claim7.holds Tryd.pinned (.plain (OpenSpec.upto fnExactSamePeopleSpec)) fnExactSamePeopleUptoCard

/-- THE SECOND FORM's CARD OF 'laws.FnExactFullForm'. -/
def fnExactFullFormUptoCard : Claim7 := { stood := { row := fnExactFullFormUptoRow, standIns := [], harness := (true, "8832c7b29ecade25c152abaedbb8d5a9446932021e04d1ad6d0715e10feae5da"), looks := false }, kinds := [], alts := [], laidByText := true, laidKinds := [.data, .pinned], laidTests := true, laidLooks := .later }
def FnExactFullFormUptoCardSaid : Prop := Claim7.holds Tryd.pinned (.plain (OpenSpec.upto fnExactFullFormSpec)) fnExactFullFormUptoCard

/-- THE SECOND FORM's CARD OF 'laws.FnExactInitialsOf'. -/
def fnExactInitialsOfUptoCard : Claim7 := { stood := { row := fnExactInitialsOfUptoRow, standIns := [], harness := (true, "8832c7b29ecade25c152abaedbb8d5a9446932021e04d1ad6d0715e10feae5da"), looks := false }, kinds := [], alts := [], laidByText := true, laidKinds := [.data, .pinned], laidTests := true, laidLooks := .later }
def FnExactInitialsOfUptoCardSaid : Prop := Claim7.holds Tryd.pinned (.plain (OpenSpec.upto fnExactInitialsOfSpec)) fnExactInitialsOfUptoCard

/-- THE SECOND FORM's CARD OF 'laws.FnExactInverseForm'. -/
def fnExactInverseFormUptoCard : Claim7 := { stood := { row := fnExactInverseFormUptoRow, standIns := [], harness := (true, "8832c7b29ecade25c152abaedbb8d5a9446932021e04d1ad6d0715e10feae5da"), looks := false }, kinds := [], alts := [], laidByText := true, laidKinds := [.data, .pinned], laidTests := true, laidLooks := .later }
def FnExactInverseFormUptoCardSaid : Prop := Claim7.holds Tryd.pinned (.plain (OpenSpec.upto fnExactInverseFormSpec)) fnExactInverseFormUptoCard

/-- THE SECOND FORM's CARD OF 'laws.FnExactParseInverse'. -/
def fnExactParseInverseUptoCard : Claim7 := { stood := { row := fnExactParseInverseUptoRow, standIns := [], harness := (true, "8832c7b29ecade25c152abaedbb8d5a9446932021e04d1ad6d0715e10feae5da"), looks := false }, kinds := [], alts := [], laidByText := true, laidKinds := [.data, .pinned], laidTests := true, laidLooks := .later }
def FnExactParseInverseUptoCardSaid : Prop := Claim7.holds Tryd.pinned (.plain (OpenSpec.upto fnExactParseInverseSpec)) fnExactParseInverseUptoCard

/-- THE SECOND FORM's CARD OF 'laws.FnExactShortForm'. -/
def fnExactShortFormUptoCard : Claim7 := { stood := { row := fnExactShortFormUptoRow, standIns := [], harness := (true, "8832c7b29ecade25c152abaedbb8d5a9446932021e04d1ad6d0715e10feae5da"), looks := false }, kinds := [], alts := [], laidByText := true, laidKinds := [.data, .pinned], laidTests := true, laidLooks := .later }
def FnExactShortFormUptoCardSaid : Prop := Claim7.holds Tryd.pinned (.plain (OpenSpec.upto fnExactShortFormSpec)) fnExactShortFormUptoCard

/-- THE SECOND FORM's CARD OF 'laws.FnExactCompareNames'. -/
def fnExactCompareNamesUptoCard : Claim7 := { stood := { row := fnExactCompareNamesUptoRow, standIns := [], harness := (true, "8832c7b29ecade25c152abaedbb8d5a9446932021e04d1ad6d0715e10feae5da"), looks := false }, kinds := [], alts := [], laidByText := true, laidKinds := [.data, .pinned], laidTests := true, laidLooks := .later }
def FnExactCompareNamesUptoCardSaid : Prop := Claim7.holds Tryd.pinned (.plain (OpenSpec.upto fnExactCompareNamesSpec)) fnExactCompareNamesUptoCard
end Rows
end Go.Proofs.YtcckamdpncbkoaaDoor
