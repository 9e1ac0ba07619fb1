/-
  DERIVED. GIVEN WITH THE SEED: THE CARDS: each row of YthhdodlpbpagfaaDoorRows.lean that lists a variable, with what it lists TIED to the program's text (the seventh form; the later family's looks); each row that meets fmt, with fmt's text TOLD by the authors' own Lean function (tested against real Go, not proved from fmt's source: count such statements apart). THE CARD IS WHAT COUNTS. Prove the row's statement (the work); the ties are given (YthhdodlpbpagfaaDoorTie.lean); close each card by the builder's one call (the guide's Derived/Test/ToyasCard.lean, 'card_holds'). Laid BY PROGRAM, IN A SANDBOX (cutbox-door.mjs). By AI agents, Wed Nov 11 2026. No macro, syntax, notation, axiom, sorry.
-/
import Derived.Test.YthhdodlpbpagfaaDoorRows
import GoSem.ClaimSeven
namespace Go.Proofs.YthhdodlpbpagfaaDoor
namespace Rows

/-- THE TIED CARD OF 'laws.FnExactEntriesOfKind'. -/
def fnExactEntriesOfKindCard : Claim7 := { stood := { row := fnExactEntriesOfKindRow, standIns := [], harness := (true, "17ca5034620b9a8da2c794be53ed742697bf035be1c94fb590607c28dba7443f"), looks := false }, kinds := [], alts := [], laidByText := true, laidKinds := [.data, .pinned], laidTests := true, laidLooks := .later }
def FnExactEntriesOfKindCardSaid : Prop := Claim7.holds Tryd.pinned (.plain (OpenSpec.ofChange fnExactEntriesOfKindSpec)) fnExactEntriesOfKindCard

/-- THE SECOND FORM's CARD OF 'laws.FnExactEntriesOfKind'. -/
def fnExactEntriesOfKindUptoCard : Claim7 := { stood := { row := fnExactEntriesOfKindUptoRow, standIns := [], harness := (true, "17ca5034620b9a8da2c794be53ed742697bf035be1c94fb590607c28dba7443f"), looks := false }, kinds := [], alts := [], laidByText := true, laidKinds := [.data, .pinned], laidTests := true, laidLooks := .later }
def FnExactEntriesOfKindUptoCardSaid : Prop := Claim7.holds Tryd.pinned (.plain (OpenSpec.upto fnExactEntriesOfKindSpec)) fnExactEntriesOfKindUptoCard
end Rows
end Go.Proofs.YthhdodlpbpagfaaDoor
