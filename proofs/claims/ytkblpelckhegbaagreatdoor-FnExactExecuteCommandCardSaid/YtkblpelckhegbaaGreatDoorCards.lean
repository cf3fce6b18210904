/-
  DERIVED. GIVEN WITH THE SEED: THE CARDS: each row of YtkblpelckhegbaaGreatDoorRows.lean that lists a variable, with what it lists TIED to the program's text (the seventh form; the later family's looks); each row that meets fmt, with fmt's text TOLD by the authors' own Lean function (tested against real Go, not proved from fmt's source: count such statements apart). THE CARD IS WHAT COUNTS. Prove the row's statement (the work); the ties are given (YtkblpelckhegbaaGreatDoorTie.lean); close each card by the builder's one call (the guide's Derived/Test/ToyasCard.lean, 'card_holds'). Laid BY PROGRAM, IN A SANDBOX (cutbox-door.mjs). By AI agents, Wed Nov 11 2026. No macro, syntax, notation, axiom, sorry.
-/
import Derived.Test.YtkblpelckhegbaaGreatDoorRows
import GoSem.ClaimSeven
namespace Go.Proofs.YtkblpelckhegbaaGreatDoor
namespace Rows

/-- THE TIED CARD OF 'laws.FnExactExecuteCommand'. -/
def fnExactExecuteCommandCard : Claim7 := { stood := { row := fnExactExecuteCommandRow, standIns := [], harness := (true, "85c49fa7f8008a505eb027cb9ae91bdfd63cc4c48b48c3d7614029cdfe2f79d1"), looks := true }, kinds := [], alts := [], laidByText := true, laidKinds := [.data, .data, .data, .data, .sentinel, .sentinel, .pinned], laidTests := true, laidLooks := .later }
def FnExactExecuteCommandCardSaid : Prop := Claim7.holds Tryz.pinned (.plain (OpenSpec.ofChange fnExactExecuteCommandSpec)) fnExactExecuteCommandCard

/-- THE SECOND FORM's CARD OF 'laws.FnExactExecuteCommand'. -/
def fnExactExecuteCommandUptoCard : Claim7 := { stood := { row := fnExactExecuteCommandUptoRow, standIns := [], harness := (true, "85c49fa7f8008a505eb027cb9ae91bdfd63cc4c48b48c3d7614029cdfe2f79d1"), looks := true }, kinds := [], alts := [], laidByText := true, laidKinds := [.data, .data, .data, .data, .sentinel, .sentinel, .pinned], laidTests := true, laidLooks := .later }
def FnExactExecuteCommandUptoCardSaid : Prop := Claim7.holds Tryz.pinned (.plain (OpenSpec.upto fnExactExecuteCommandSpec)) fnExactExecuteCommandUptoCard
end Rows
end Go.Proofs.YtkblpelckhegbaaGreatDoor
