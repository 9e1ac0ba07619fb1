/-
  DERIVED. GIVEN WITH THE SEED: THE CARDS: each row of YtgingnbfihaopaaDoorRows.lean that lists a variable, with what it lists TIED to the program's text (the seventh form; the later family's looks); each row that meets fmt, with fmt's text TOLD by the authors' own Lean function (tested against real Go, not proved from fmt's source: count such statements apart). THE CARD IS WHAT COUNTS. Prove the row's statement (the work); the ties are given (YtgingnbfihaopaaDoorTie.lean); close each card by the builder's one call (the guide's Derived/Test/ToyasCard.lean, 'card_holds'). Laid BY PROGRAM, IN A SANDBOX (cutbox-door.mjs). By AI agents, Wed Nov 11 2026. No macro, syntax, notation, axiom, sorry.
-/
import Derived.Test.YtgingnbfihaopaaDoorRows
import GoSem.ClaimSeven
namespace Go.Proofs.YtgingnbfihaopaaDoor
namespace Rows

/-- THE TIED CARD OF 'laws.FnNameForms'. -/
def fnNameFormsCard : Claim7 := { stood := { row := fnNameFormsRow, standIns := [], harness := (true, "6163663b1f29f242aa9b0e5bebb69b60d7c91d551c5bb3137b8ef7ec8d6585ea"), looks := false }, kinds := [], alts := [], laidByText := true, laidKinds := [.data, .pinned], laidTests := true, laidLooks := .later }
def FnNameFormsCardSaid : Prop := Claim7.holds Tryd.pinned (.plain (OpenSpec.ofChange fnNameFormsSpec)) fnNameFormsCard

/-- THE TIED CARD OF 'laws.FnExactParseNames'. -/
def fnExactParseNamesCard : Claim7 := { stood := { row := fnExactParseNamesRow, standIns := [], harness := (true, "6163663b1f29f242aa9b0e5bebb69b60d7c91d551c5bb3137b8ef7ec8d6585ea"), looks := false }, kinds := [], alts := [], laidByText := true, laidKinds := [.data, .pinned], laidTests := true, laidLooks := .later }
def FnExactParseNamesCardSaid : Prop := Claim7.holds Tryd.pinned (.plain (OpenSpec.ofChange fnExactParseNamesSpec)) fnExactParseNamesCard

/-- THE SECOND FORM's CARD OF 'laws.FnNameForms'. -/
def fnNameFormsUptoCard : Claim7 := { stood := { row := fnNameFormsUptoRow, standIns := [], harness := (true, "6163663b1f29f242aa9b0e5bebb69b60d7c91d551c5bb3137b8ef7ec8d6585ea"), looks := false }, kinds := [], alts := [], laidByText := true, laidKinds := [.data, .pinned], laidTests := true, laidLooks := .later }
def FnNameFormsUptoCardSaid : Prop := Claim7.holds Tryd.pinned (.plain (OpenSpec.upto fnNameFormsSpec)) fnNameFormsUptoCard

/-- THE SECOND FORM's CARD OF 'laws.FnExactParseNames'. -/
def fnExactParseNamesUptoCard : Claim7 := { stood := { row := fnExactParseNamesUptoRow, standIns := [], harness := (true, "6163663b1f29f242aa9b0e5bebb69b60d7c91d551c5bb3137b8ef7ec8d6585ea"), looks := false }, kinds := [], alts := [], laidByText := true, laidKinds := [.data, .pinned], laidTests := true, laidLooks := .later }
def FnExactParseNamesUptoCardSaid : Prop := Claim7.holds Tryd.pinned (.plain (OpenSpec.upto fnExactParseNamesSpec)) fnExactParseNamesUptoCard
end Rows
end Go.Proofs.YtgingnbfihaopaaDoor
