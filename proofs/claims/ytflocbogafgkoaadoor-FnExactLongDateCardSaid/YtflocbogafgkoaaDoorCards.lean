/-
  DERIVED. GIVEN WITH THE SEED: THE CARDS: each row of YtflocbogafgkoaaDoorRows.lean that lists a variable, with what it lists TIED to the program's text (the seventh form; the later family's looks); each row that meets fmt, with fmt's text TOLD by the authors' own Lean function (tested against real Go, not proved from fmt's source: count such statements apart). THE CARD IS WHAT COUNTS. Prove the row's statement (the work); the ties are given (YtflocbogafgkoaaDoorTie.lean); close each card by the builder's one call (the guide's Derived/Test/ToyasCard.lean, 'card_holds'). Laid BY PROGRAM, IN A SANDBOX (cutbox-door.mjs). By AI agents, Wed Nov 11 2026. No macro, syntax, notation, axiom, sorry.
-/
import Derived.Test.YtflocbogafgkoaaDoorRows
import GoSem.ClaimSeven
namespace Go.Proofs.YtflocbogafgkoaaDoor
namespace Rows

/-- THE TIED CARD OF 'laws.FnExactLongDate'. -/
def fnExactLongDateCard : Claim7 := { stood := { row := fnExactLongDateRow, standIns := [], harness := (true, "bb93c666ea49f005f2f0cc87be3dda48d296235d8580d21ef3a3110e572d8ffd"), looks := false }, kinds := [], alts := [], laidByText := true, laidKinds := [.data, .data, .data, .data], laidTests := true, laidLooks := .later }
def FnExactLongDateCardSaid : Prop := Claim7.holds Tryd.pinned (.plain (OpenSpec.ofChange fnExactLongDateSpec)) fnExactLongDateCard

/-- THE SECOND FORM's CARD OF 'laws.FnExactLongDate'. -/
def fnExactLongDateUptoCard : Claim7 := { stood := { row := fnExactLongDateUptoRow, standIns := [], harness := (true, "bb93c666ea49f005f2f0cc87be3dda48d296235d8580d21ef3a3110e572d8ffd"), looks := false }, kinds := [], alts := [], laidByText := true, laidKinds := [.data, .data, .data, .data], laidTests := true, laidLooks := .later }
def FnExactLongDateUptoCardSaid : Prop := Claim7.holds Tryd.pinned (.plain (OpenSpec.upto fnExactLongDateSpec)) fnExactLongDateUptoCard
end Rows
end Go.Proofs.YtflocbogafgkoaaDoor
