/-
  DERIVED. GIVEN WITH THE SEED: THE CARDS: each row of YteagahcbffgjpaaGreatDoorRows.lean that lists a variable, with what it lists TIED to the program's text (the seventh form; the later family's looks); each row that meets fmt, with fmt's text TOLD by the authors' own Lean function (tested against real Go, not proved from fmt's source: count such statements apart). THE CARD IS WHAT COUNTS. Prove the row's statement (the work); the ties are given (YteagahcbffgjpaaGreatDoorTie.lean); close each card by the builder's one call (the guide's Derived/Test/ToyasCard.lean, 'card_holds'). Laid BY PROGRAM, IN A SANDBOX (cutbox-door.mjs). By AI agents, Wed Nov 11 2026. No macro, syntax, notation, axiom, sorry.
-/
import Derived.Test.YteagahcbffgjpaaGreatDoorRows
import GoSem.ClaimSeven
namespace Go.Proofs.YteagahcbffgjpaaGreatDoor
namespace Rows

/-- THE TIED CARD OF 'laws.FnExactDropEntry'. -/
def fnExactDropEntryCard : Claim7 := { stood := { row := fnExactDropEntryRow, standIns := [], harness := (true, "dfe712d3a75ef638e7545298bb266c5e878da0535264a29fe801600fd18790bd"), looks := false }, kinds := [], alts := [], laidByText := true, laidKinds := [.data, .pinned], laidTests := true, laidLooks := .later }
def FnExactDropEntryCardSaid : Prop := Claim7.holds Tryz.pinned (.plain (OpenSpec.ofChange fnExactDropEntrySpec)) fnExactDropEntryCard

/-- THE SECOND FORM's CARD OF 'laws.FnExactDropEntry'. -/
def fnExactDropEntryUptoCard : Claim7 := { stood := { row := fnExactDropEntryUptoRow, standIns := [], harness := (true, "dfe712d3a75ef638e7545298bb266c5e878da0535264a29fe801600fd18790bd"), looks := false }, kinds := [], alts := [], laidByText := true, laidKinds := [.data, .pinned], laidTests := true, laidLooks := .later }
def FnExactDropEntryUptoCardSaid : Prop := Claim7.holds Tryz.pinned (.plain (OpenSpec.upto fnExactDropEntrySpec)) fnExactDropEntryUptoCard
end Rows
end Go.Proofs.YteagahcbffgjpaaGreatDoor
