/-
  DERIVED. GIVEN WITH THE SEED: THE CARDS: each row of YtcbmccjbhfggjaaDoorRows.lean that lists a variable, with what it lists TIED to the program's text (the seventh form; the later family's looks); each row that meets fmt, with fmt's text TOLD by the authors' own Lean function (tested against real Go, not proved from fmt's source: count such statements apart). THE CARD IS WHAT COUNTS. Prove the row's statement (the work); the ties are given (YtcbmccjbhfggjaaDoorTie.lean); close each card by the builder's one call (the guide's Derived/Test/ToyasCard.lean, 'card_holds'). Laid BY PROGRAM, IN A SANDBOX (cutbox-door.mjs). By AI agents, Wed Nov 11 2026. No macro, syntax, notation, axiom, sorry.
-/
import Derived.Test.YtcbmccjbhfggjaaDoorRows
import GoSem.ClaimSeven
namespace Go.Proofs.YtcbmccjbhfggjaaDoor
namespace Rows

/-- THE TIED CARD OF 'laws.FnExactFormatInt'. -/
def fnExactFormatIntCard : Claim7 := { stood := { row := fnExactFormatIntRow, standIns := [], harness := (true, "bd78b602c355bb3e9360bdac10e1898cfdbfa38c0b63e9297f509d319e3916c2"), looks := true }, kinds := [], alts := [], laidByText := true, laidKinds := [.data, .data, .data], laidTests := true, laidLooks := .later }
def FnExactFormatIntCardSaid : Prop := Claim7.holds Tryd.pinned (.plain (OpenSpec.ofChange fnExactFormatIntSpec)) fnExactFormatIntCard

/-- THE TIED CARD OF 'laws.FnExactFormatDate'. -/
def fnExactFormatDateCard : Claim7 := { stood := { row := fnExactFormatDateRow, standIns := [], harness := (true, "bd78b602c355bb3e9360bdac10e1898cfdbfa38c0b63e9297f509d319e3916c2"), looks := true }, kinds := [], alts := [], laidByText := true, laidKinds := [.data, .data, .data], laidTests := true, laidLooks := .later }
def FnExactFormatDateCardSaid : Prop := Claim7.holds Tryd.pinned (.plain (OpenSpec.ofChange fnExactFormatDateSpec)) fnExactFormatDateCard

/-- THE TIED CARD OF 'laws.FnExactAppendChecksum'. -/
def fnExactAppendChecksumCard : Claim7 := { stood := { row := fnExactAppendChecksumRow, standIns := [], harness := (true, "bd78b602c355bb3e9360bdac10e1898cfdbfa38c0b63e9297f509d319e3916c2"), looks := true }, kinds := [], alts := [], laidByText := true, laidKinds := [.data, .data, .data], laidTests := true, laidLooks := .later }
def FnExactAppendChecksumCardSaid : Prop := Claim7.holds Tryd.pinned (.plain (OpenSpec.ofChange fnExactAppendChecksumSpec)) fnExactAppendChecksumCard

/-- THE TIED CARD OF 'laws.FnExactVerifyChecksum'. -/
def fnExactVerifyChecksumCard : Claim7 := { stood := { row := fnExactVerifyChecksumRow, standIns := [], harness := (true, "bd78b602c355bb3e9360bdac10e1898cfdbfa38c0b63e9297f509d319e3916c2"), looks := true }, kinds := [], alts := [], laidByText := true, laidKinds := [.data, .data, .data], laidTests := true, laidLooks := .later }
def FnExactVerifyChecksumCardSaid : Prop := Claim7.holds Tryd.pinned (.plain (OpenSpec.ofChange fnExactVerifyChecksumSpec)) fnExactVerifyChecksumCard

/-- THE TIED CARD OF 'laws.FnExactLongDate'. -/
def fnExactLongDateCard : Claim7 := { stood := { row := fnExactLongDateRow, standIns := [], harness := (true, "bd78b602c355bb3e9360bdac10e1898cfdbfa38c0b63e9297f509d319e3916c2"), looks := true }, kinds := [], alts := [], laidByText := true, laidKinds := [.data, .data, .data, .data], laidTests := true, laidLooks := .later }
def FnExactLongDateCardSaid : Prop := Claim7.holds Tryd.pinned (.plain (OpenSpec.ofChange fnExactLongDateSpec)) fnExactLongDateCard

/-- THE TIED CARD OF 'laws.FnExactIsValidTitle'. -/
def fnExactIsValidTitleCard : Claim7 := { stood := { row := fnExactIsValidTitleRow, standIns := [], harness := (true, "bd78b602c355bb3e9360bdac10e1898cfdbfa38c0b63e9297f509d319e3916c2"), looks := true }, kinds := [], alts := [], laidByText := true, laidKinds := [.data, .pinned], laidTests := true, laidLooks := .later }
def FnExactIsValidTitleCardSaid : Prop := Claim7.holds Tryd.pinned (.plain (OpenSpec.ofChange fnExactIsValidTitleSpec)) fnExactIsValidTitleCard

/-- THE TIED CARD OF 'laws.FnExactSplitSubtitle'. -/
def fnExactSplitSubtitleCard : Claim7 := { stood := { row := fnExactSplitSubtitleRow, standIns := [], harness := (true, "bd78b602c355bb3e9360bdac10e1898cfdbfa38c0b63e9297f509d319e3916c2"), looks := true }, kinds := [], alts := [], laidByText := true, laidKinds := [.data, .pinned], laidTests := true, laidLooks := .later }
def FnExactSplitSubtitleCardSaid : Prop := Claim7.holds Tryd.pinned (.plain (OpenSpec.ofChange fnExactSplitSubtitleSpec)) fnExactSplitSubtitleCard

/-- THE TIED CARD OF 'laws.FnExactTitleWords'. -/
def fnExactTitleWordsCard : Claim7 := { stood := { row := fnExactTitleWordsRow, standIns := [], harness := (true, "bd78b602c355bb3e9360bdac10e1898cfdbfa38c0b63e9297f509d319e3916c2"), looks := true }, kinds := [], alts := [], laidByText := true, laidKinds := [.data, .pinned], laidTests := true, laidLooks := .later }
def FnExactTitleWordsCardSaid : Prop := Claim7.holds Tryd.pinned (.plain (OpenSpec.ofChange fnExactTitleWordsSpec)) fnExactTitleWordsCard

/-- THE TIED CARD OF 'laws.FnExactParseInt'. -/
def fnExactParseIntCard : Claim7 := { stood := { row := fnExactParseIntRow, standIns := [], harness := (true, "bd78b602c355bb3e9360bdac10e1898cfdbfa38c0b63e9297f509d319e3916c2"), looks := true }, kinds := [], alts := [], laidByText := true, laidKinds := [.data, .data, .data, .sentinel, .sentinel], laidTests := true, laidLooks := .later }
def FnExactParseIntCardSaid : Prop := Claim7.holds Tryd.pinned (.plain (OpenSpec.ofChange fnExactParseIntSpec)) fnExactParseIntCard

/-- THE TIED CARD OF 'laws.FnExactPlainTitle'. -/
def fnExactPlainTitleCard : Claim7 := { stood := { row := fnExactPlainTitleRow, standIns := [], harness := (true, "bd78b602c355bb3e9360bdac10e1898cfdbfa38c0b63e9297f509d319e3916c2"), looks := true }, kinds := [], alts := [], laidByText := true, laidKinds := [.data, .pinned], laidTests := true, laidLooks := .later }
def FnExactPlainTitleCardSaid : Prop := Claim7.holds Tryd.pinned (.plain (OpenSpec.ofChange fnExactPlainTitleSpec)) fnExactPlainTitleCard

/-- THE TIED CARD OF 'laws.FnStrings'. -/
def fnStringsCard : Claim7 := { stood := { row := fnStringsRow, standIns := [], harness := (true, "bd78b602c355bb3e9360bdac10e1898cfdbfa38c0b63e9297f509d319e3916c2"), looks := true }, kinds := [], alts := [], laidByText := true, laidKinds := [.data, .data, .data, .sentinel, .sentinel], laidTests := true, laidLooks := .later }
def FnStringsCardSaid : Prop := Claim7.holds Tryd.pinned (.plain (OpenSpec.ofChange fnStringsSpec)) fnStringsCard

/-- THE TIED CARD OF 'laws.FnExactParseDate'. -/
def fnExactParseDateCard : Claim7 := { stood := { row := fnExactParseDateRow, standIns := [], harness := (true, "bd78b602c355bb3e9360bdac10e1898cfdbfa38c0b63e9297f509d319e3916c2"), looks := true }, kinds := [], alts := [], laidByText := true, laidKinds := [.data, .data, .data, .data, .sentinel, .sentinel, .pinned], laidTests := true, laidLooks := .later }
def FnExactParseDateCardSaid : Prop := Claim7.holds Tryd.pinned (.plain (OpenSpec.ofChange fnExactParseDateSpec)) fnExactParseDateCard

/-- THE TIED CARD OF 'laws.FnDateForms'. -/
def fnDateFormsCard : Claim7 := { stood := { row := fnDateFormsRow, standIns := [], harness := (true, "bd78b602c355bb3e9360bdac10e1898cfdbfa38c0b63e9297f509d319e3916c2"), looks := true }, kinds := [], alts := [], laidByText := true, laidKinds := [.data, .data, .data, .data, .sentinel, .sentinel, .pinned], laidTests := true, laidLooks := .later }
def FnDateFormsCardSaid : Prop := Claim7.holds Tryd.pinned (.plain (OpenSpec.ofChange fnDateFormsSpec)) fnDateFormsCard

/-- THE SECOND FORM's CARD OF 'laws.FnExactFormatInt'. -/
def fnExactFormatIntUptoCard : Claim7 := { stood := { row := fnExactFormatIntUptoRow, standIns := [], harness := (true, "bd78b602c355bb3e9360bdac10e1898cfdbfa38c0b63e9297f509d319e3916c2"), looks := true }, kinds := [], alts := [], laidByText := true, laidKinds := [.data, .data, .data], laidTests := true, laidLooks := .later }
def FnExactFormatIntUptoCardSaid : Prop := Claim7.holds Tryd.pinned (.plain (OpenSpec.upto fnExactFormatIntSpec)) fnExactFormatIntUptoCard

/-- THE SECOND FORM's CARD OF 'laws.FnExactFormatDate'. -/
def fnExactFormatDateUptoCard : Claim7 := { stood := { row := fnExactFormatDateUptoRow, standIns := [], harness := (true, "bd78b602c355bb3e9360bdac10e1898cfdbfa38c0b63e9297f509d319e3916c2"), looks := true }, kinds := [], alts := [], laidByText := true, laidKinds := [.data, .data, .data], laidTests := true, laidLooks := .later }
def FnExactFormatDateUptoCardSaid : Prop := Claim7.holds Tryd.pinned (.plain (OpenSpec.upto fnExactFormatDateSpec)) fnExactFormatDateUptoCard

/-- THE SECOND FORM's CARD OF 'laws.FnExactAppendChecksum'. -/
def fnExactAppendChecksumUptoCard : Claim7 := { stood := { row := fnExactAppendChecksumUptoRow, standIns := [], harness := (true, "bd78b602c355bb3e9360bdac10e1898cfdbfa38c0b63e9297f509d319e3916c2"), looks := true }, kinds := [], alts := [], laidByText := true, laidKinds := [.data, .data, .data], laidTests := true, laidLooks := .later }
def FnExactAppendChecksumUptoCardSaid : Prop := Claim7.holds Tryd.pinned (.plain (OpenSpec.upto fnExactAppendChecksumSpec)) fnExactAppendChecksumUptoCard

/-- THE SECOND FORM's CARD OF 'laws.FnExactVerifyChecksum'. -/
def fnExactVerifyChecksumUptoCard : Claim7 := { stood := { row := fnExactVerifyChecksumUptoRow, standIns := [], harness := (true, "bd78b602c355bb3e9360bdac10e1898cfdbfa38c0b63e9297f509d319e3916c2"), looks := true }, kinds := [], alts := [], laidByText := true, laidKinds := [.data, .data, .data], laidTests := true, laidLooks := .later }
def FnExactVerifyChecksumUptoCardSaid : Prop := Claim7.holds Tryd.pinned (.plain (OpenSpec.upto fnExactVerifyChecksumSpec)) fnExactVerifyChecksumUptoCard

/-- THE SECOND FORM's CARD OF 'laws.FnExactLongDate'. -/
def fnExactLongDateUptoCard : Claim7 := { stood := { row := fnExactLongDateUptoRow, standIns := [], harness := (true, "bd78b602c355bb3e9360bdac10e1898cfdbfa38c0b63e9297f509d319e3916c2"), looks := true }, kinds := [], alts := [], laidByText := true, laidKinds := [.data, .data, .data, .data], laidTests := true, laidLooks := .later }
def FnExactLongDateUptoCardSaid : Prop := Claim7.holds Tryd.pinned (.plain (OpenSpec.upto fnExactLongDateSpec)) fnExactLongDateUptoCard

/-- THE SECOND FORM's CARD OF 'laws.FnExactIsValidTitle'. -/
def fnExactIsValidTitleUptoCard : Claim7 := { stood := { row := fnExactIsValidTitleUptoRow, standIns := [], harness := (true, "bd78b602c355bb3e9360bdac10e1898cfdbfa38c0b63e9297f509d319e3916c2"), looks := true }, kinds := [], alts := [], laidByText := true, laidKinds := [.data, .pinned], laidTests := true, laidLooks := .later }
def FnExactIsValidTitleUptoCardSaid : Prop := Claim7.holds Tryd.pinned (.plain (OpenSpec.upto fnExactIsValidTitleSpec)) fnExactIsValidTitleUptoCard

/-- THE SECOND FORM's CARD OF 'laws.FnExactSplitSubtitle'. -/
def fnExactSplitSubtitleUptoCard : Claim7 := { stood := { row := fnExactSplitSubtitleUptoRow, standIns := [], harness := (true, "bd78b602c355bb3e9360bdac10e1898cfdbfa38c0b63e9297f509d319e3916c2"), looks := true }, kinds := [], alts := [], laidByText := true, laidKinds := [.data, .pinned], laidTests := true, laidLooks := .later }
def FnExactSplitSubtitleUptoCardSaid : Prop := Claim7.holds Tryd.pinned (.plain (OpenSpec.upto fnExactSplitSubtitleSpec)) fnExactSplitSubtitleUptoCard

/-- THE SECOND FORM's CARD OF 'laws.FnExactTitleWords'. -/
def fnExactTitleWordsUptoCard : Claim7 := { stood := { row := fnExactTitleWordsUptoRow, standIns := [], harness := (true, "bd78b602c355bb3e9360bdac10e1898cfdbfa38c0b63e9297f509d319e3916c2"), looks := true }, kinds := [], alts := [], laidByText := true, laidKinds := [.data, .pinned], laidTests := true, laidLooks := .later }
def FnExactTitleWordsUptoCardSaid : Prop := Claim7.holds Tryd.pinned (.plain (OpenSpec.upto fnExactTitleWordsSpec)) fnExactTitleWordsUptoCard

/-- THE SECOND FORM's CARD OF 'laws.FnExactParseInt'. -/
def fnExactParseIntUptoCard : Claim7 := { stood := { row := fnExactParseIntUptoRow, standIns := [], harness := (true, "bd78b602c355bb3e9360bdac10e1898cfdbfa38c0b63e9297f509d319e3916c2"), looks := true }, kinds := [], alts := [], laidByText := true, laidKinds := [.data, .data, .data, .sentinel, .sentinel], laidTests := true, laidLooks := .later }
def FnExactParseIntUptoCardSaid : Prop := Claim7.holds Tryd.pinned (.plain (OpenSpec.upto fnExactParseIntSpec)) fnExactParseIntUptoCard

/-- THE SECOND FORM's CARD OF 'laws.FnExactPlainTitle'. -/
def fnExactPlainTitleUptoCard : Claim7 := { stood := { row := fnExactPlainTitleUptoRow, standIns := [], harness := (true, "bd78b602c355bb3e9360bdac10e1898cfdbfa38c0b63e9297f509d319e3916c2"), looks := true }, kinds := [], alts := [], laidByText := true, laidKinds := [.data, .pinned], laidTests := true, laidLooks := .later }
def FnExactPlainTitleUptoCardSaid : Prop := Claim7.holds Tryd.pinned (.plain (OpenSpec.upto fnExactPlainTitleSpec)) fnExactPlainTitleUptoCard

/-- THE SECOND FORM's CARD OF 'laws.FnStrings'. -/
def fnStringsUptoCard : Claim7 := { stood := { row := fnStringsUptoRow, standIns := [], harness := (true, "bd78b602c355bb3e9360bdac10e1898cfdbfa38c0b63e9297f509d319e3916c2"), looks := true }, kinds := [], alts := [], laidByText := true, laidKinds := [.data, .data, .data, .sentinel, .sentinel], laidTests := true, laidLooks := .later }
def FnStringsUptoCardSaid : Prop := Claim7.holds Tryd.pinned (.plain (OpenSpec.upto fnStringsSpec)) fnStringsUptoCard

/-- THE SECOND FORM's CARD OF 'laws.FnExactParseDate'. -/
def fnExactParseDateUptoCard : Claim7 := { stood := { row := fnExactParseDateUptoRow, standIns := [], harness := (true, "bd78b602c355bb3e9360bdac10e1898cfdbfa38c0b63e9297f509d319e3916c2"), looks := true }, kinds := [], alts := [], laidByText := true, laidKinds := [.data, .data, .data, .data, .sentinel, .sentinel, .pinned], laidTests := true, laidLooks := .later }
def FnExactParseDateUptoCardSaid : Prop := Claim7.holds Tryd.pinned (.plain (OpenSpec.upto fnExactParseDateSpec)) fnExactParseDateUptoCard

/-- THE SECOND FORM's CARD OF 'laws.FnDateForms'. -/
def fnDateFormsUptoCard : Claim7 := { stood := { row := fnDateFormsUptoRow, standIns := [], harness := (true, "bd78b602c355bb3e9360bdac10e1898cfdbfa38c0b63e9297f509d319e3916c2"), looks := true }, kinds := [], alts := [], laidByText := true, laidKinds := [.data, .data, .data, .data, .sentinel, .sentinel, .pinned], laidTests := true, laidLooks := .later }
def FnDateFormsUptoCardSaid : Prop := Claim7.holds Tryd.pinned (.plain (OpenSpec.upto fnDateFormsSpec)) fnDateFormsUptoCard
end Rows
end Go.Proofs.YtcbmccjbhfggjaaDoor
