/-
  DERIVED. GIVEN WITH THE SEED: THE CARDS: each row of YtdaofafeigdicaaGreatDoorRows.lean that lists a variable, with what it lists TIED to the program's text (the seventh form; the later family's looks); each row that meets fmt, with fmt's text TOLD by the authors' own Lean function (tested against real Go, not proved from fmt's source: count such statements apart). THE CARD IS WHAT COUNTS. Prove the row's statement (the work); the ties are given (YtdaofafeigdicaaGreatDoorTie.lean); close each card by the builder's one call (the guide's Derived/Test/ToyasCard.lean, 'card_holds'). Laid BY PROGRAM, IN A SANDBOX (cutbox-door.mjs). By AI agents, Wed Nov 11 2026. No macro, syntax, notation, axiom, sorry.
-/
import Derived.Test.YtdaofafeigdicaaGreatDoorRows
import GoSem.ClaimSeven
namespace Go.Proofs.YtdaofafeigdicaaGreatDoor
namespace Rows

/-- THE TIED CARD OF 'laws.FnExactMissingFields'. -/
def fnExactMissingFieldsCard : Claim7 := { stood := { row := fnExactMissingFieldsRow, standIns := [], harness := (true, "d7456413a2ad0f9f44942ccca70499a9ac81f2541cc50e67be2007b2032f14ab"), looks := false }, kinds := [], alts := [], laidByText := true, laidKinds := [.data, .data, .data, .data, .pinned], laidTests := true, laidLooks := .later }
def FnExactMissingFieldsCardSaid : Prop := Claim7.holds Tryz.pinned (.plain (OpenSpec.ofChange fnExactMissingFieldsSpec)) fnExactMissingFieldsCard

/-- THE SECOND FORM's CARD OF 'laws.FnExactMissingFields'. -/
def fnExactMissingFieldsUptoCard : Claim7 := { stood := { row := fnExactMissingFieldsUptoRow, standIns := [], harness := (true, "d7456413a2ad0f9f44942ccca70499a9ac81f2541cc50e67be2007b2032f14ab"), looks := false }, kinds := [], alts := [], laidByText := true, laidKinds := [.data, .data, .data, .data, .pinned], laidTests := true, laidLooks := .later }
def FnExactMissingFieldsUptoCardSaid : Prop := Claim7.holds Tryz.pinned (.plain (OpenSpec.upto fnExactMissingFieldsSpec)) fnExactMissingFieldsUptoCard
end Rows
end Go.Proofs.YtdaofafeigdicaaGreatDoor
