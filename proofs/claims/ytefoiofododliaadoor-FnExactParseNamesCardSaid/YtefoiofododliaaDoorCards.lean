/-
  DERIVED. GIVEN WITH THE SEED: THE CARDS: each row of YtefoiofododliaaDoorRows.lean that lists a variable, with what it lists TIED to the program's text (the seventh form; the later family's looks); each row that meets fmt, with fmt's text TOLD by the authors' own Lean function (tested against real Go, not proved from fmt's source: count such statements apart). THE CARD IS WHAT COUNTS. Prove the row's statement (the work); the ties are given (YtefoiofododliaaDoorTie.lean); close each card by the builder's one call (the guide's Derived/Test/ToyasCard.lean, 'card_holds'). Laid BY PROGRAM, IN A SANDBOX (cutbox-door.mjs). By AI agents, Wed Nov 11 2026. No macro, syntax, notation, axiom, sorry.
-/
import Derived.Test.YtefoiofododliaaDoorRows
import GoSem.ClaimSeven
namespace Go.Proofs.YtefoiofododliaaDoor
namespace Rows

/-- THE TIED CARD OF 'laws.FnExactParseNames'. -/
def fnExactParseNamesCard : Claim7 := { stood := { row := fnExactParseNamesRow, standIns := [], harness := (true, "299da639401028dfd1e2de9137bda3a38f5031707add4486e40c01fd746669b1"), looks := false }, kinds := [], alts := [], laidByText := true, laidKinds := [.data, .pinned], laidTests := true, laidLooks := .later }
def FnExactParseNamesCardSaid : Prop := Claim7.holds Tryd.pinned (.plain (OpenSpec.ofChange fnExactParseNamesSpec)) fnExactParseNamesCard

/-- THE SECOND FORM's CARD OF 'laws.FnExactParseNames'. -/
def fnExactParseNamesUptoCard : Claim7 := { stood := { row := fnExactParseNamesUptoRow, standIns := [], harness := (true, "299da639401028dfd1e2de9137bda3a38f5031707add4486e40c01fd746669b1"), looks := false }, kinds := [], alts := [], laidByText := true, laidKinds := [.data, .pinned], laidTests := true, laidLooks := .later }
def FnExactParseNamesUptoCardSaid : Prop := Claim7.holds Tryd.pinned (.plain (OpenSpec.upto fnExactParseNamesSpec)) fnExactParseNamesUptoCard
end Rows
end Go.Proofs.YtefoiofododliaaDoor
