/-
  DERIVED. GIVEN WITH THE SEED: THE CARDS: each row of YtmjmjfkjlblgaaaDoorRows.lean that lists a variable, with what it lists TIED to the program's text (the seventh form; the later family's looks); each row that meets fmt, with fmt's text TOLD by the authors' own Lean function (tested against real Go, not proved from fmt's source: count such statements apart). THE CARD IS WHAT COUNTS. Prove the row's statement (the work); the ties are given (YtmjmjfkjlblgaaaDoorTie.lean); close each card by the builder's one call (the guide's Derived/Test/ToyasCard.lean, 'card_holds'). Laid BY PROGRAM, IN A SANDBOX (cutbox-door.mjs). By AI agents, Wed Nov 11 2026. No macro, syntax, notation, axiom, sorry.
-/
import Derived.Test.YtmjmjfkjlblgaaaDoorRows
import GoSem.ClaimSeven
namespace Go.Proofs.YtmjmjfkjlblgaaaDoor
namespace Rows

/-- THE TIED CARD OF 'laws.FnStrings'. -/
def fnStringsCard : Claim7 := { stood := { row := fnStringsRow, standIns := [], harness := (true, "ca9a998ccb2be41bce994d19c255c542a75fad0a9b751f06cbcd427755d9b01c"), looks := true }, kinds := [], alts := [], laidByText := true, laidKinds := [.data, .data, .data, .sentinel, .sentinel], laidTests := true, laidLooks := .later }
def FnStringsCardSaid : Prop := Claim7.holds Tryd.pinned (.plain (OpenSpec.ofChange fnStringsSpec)) fnStringsCard

/-- THE TIED CARD OF 'laws.FnExactParseDate'. -/
def fnExactParseDateCard : Claim7 := { stood := { row := fnExactParseDateRow, standIns := [], harness := (true, "ca9a998ccb2be41bce994d19c255c542a75fad0a9b751f06cbcd427755d9b01c"), looks := true }, kinds := [], alts := [], laidByText := true, laidKinds := [.data, .data, .data, .data, .sentinel, .sentinel, .pinned], laidTests := true, laidLooks := .later }
def FnExactParseDateCardSaid : Prop := Claim7.holds Tryd.pinned (.plain (OpenSpec.ofChange fnExactParseDateSpec)) fnExactParseDateCard

/-- THE TIED CARD OF 'laws.FnDateForms'. -/
def fnDateFormsCard : Claim7 := { stood := { row := fnDateFormsRow, standIns := [], harness := (true, "ca9a998ccb2be41bce994d19c255c542a75fad0a9b751f06cbcd427755d9b01c"), looks := true }, kinds := [], alts := [], laidByText := true, laidKinds := [.data, .data, .data, .data, .sentinel, .sentinel, .pinned], laidTests := true, laidLooks := .later }
def FnDateFormsCardSaid : Prop := Claim7.holds Tryd.pinned (.plain (OpenSpec.ofChange fnDateFormsSpec)) fnDateFormsCard

/-- THE SECOND FORM's CARD OF 'laws.FnStrings'. -/
def fnStringsUptoCard : Claim7 := { stood := { row := fnStringsUptoRow, standIns := [], harness := (true, "ca9a998ccb2be41bce994d19c255c542a75fad0a9b751f06cbcd427755d9b01c"), looks := true }, kinds := [], alts := [], laidByText := true, laidKinds := [.data, .data, .data, .sentinel, .sentinel], laidTests := true, laidLooks := .later }
def FnStringsUptoCardSaid : Prop := Claim7.holds Tryd.pinned (.plain (OpenSpec.upto fnStringsSpec)) fnStringsUptoCard

/-- THE SECOND FORM's CARD OF 'laws.FnExactParseDate'. -/
def fnExactParseDateUptoCard : Claim7 := { stood := { row := fnExactParseDateUptoRow, standIns := [], harness := (true, "ca9a998ccb2be41bce994d19c255c542a75fad0a9b751f06cbcd427755d9b01c"), looks := true }, kinds := [], alts := [], laidByText := true, laidKinds := [.data, .data, .data, .data, .sentinel, .sentinel, .pinned], laidTests := true, laidLooks := .later }
def FnExactParseDateUptoCardSaid : Prop := Claim7.holds Tryd.pinned (.plain (OpenSpec.upto fnExactParseDateSpec)) fnExactParseDateUptoCard

/-- THE SECOND FORM's CARD OF 'laws.FnDateForms'. -/
def fnDateFormsUptoCard : Claim7 := { stood := { row := fnDateFormsUptoRow, standIns := [], harness := (true, "ca9a998ccb2be41bce994d19c255c542a75fad0a9b751f06cbcd427755d9b01c"), looks := true }, kinds := [], alts := [], laidByText := true, laidKinds := [.data, .data, .data, .data, .sentinel, .sentinel, .pinned], laidTests := true, laidLooks := .later }
def FnDateFormsUptoCardSaid : Prop := Claim7.holds Tryd.pinned (.plain (OpenSpec.upto fnDateFormsSpec)) fnDateFormsUptoCard
end Rows
end Go.Proofs.YtmjmjfkjlblgaaaDoor
