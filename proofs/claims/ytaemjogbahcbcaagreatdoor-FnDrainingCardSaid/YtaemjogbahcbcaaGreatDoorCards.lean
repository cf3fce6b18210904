/-
  DERIVED. GIVEN WITH THE SEED: THE CARDS: each row of YtaemjogbahcbcaaGreatDoorRows.lean that lists a variable, with what it lists TIED to the program's text (the seventh form; the later family's looks); each row that meets fmt, with fmt's text TOLD by the authors' own Lean function (tested against real Go, not proved from fmt's source: count such statements apart). THE CARD IS WHAT COUNTS. Prove the row's statement (the work); the ties are given (YtaemjogbahcbcaaGreatDoorTie.lean); close each card by the builder's one call (the guide's Derived/Test/ToyasCard.lean, 'card_holds'). Laid BY PROGRAM, IN A SANDBOX (cutbox-door.mjs). By AI agents, Wed Nov 11 2026. No macro, syntax, notation, axiom, sorry.
-/
import Derived.Test.YtaemjogbahcbcaaGreatDoorRows
import GoSem.ClaimSeven
namespace Go.Proofs.YtaemjogbahcbcaaGreatDoor
namespace Rows

/-- THE TIED CARD OF 'laws.FnSteps'. -/
def fnStepsCard : Claim7 := { stood := { row := fnStepsRow, standIns := [], harness := (true, "ed56cbcbf0bdfe7d75984e962cac63248c3c509354711b109c918affb041a21a"), looks := false }, kinds := [], alts := [], laidByText := true, laidKinds := [.data, .data, .data, .data, .pinned], laidTests := true, laidLooks := .later }
def FnStepsCardSaid : Prop := Claim7.holds Tryz.pinned (.plain (OpenSpec.ofChange fnStepsSpec)) fnStepsCard

/-- THE TIED CARD OF 'laws.FnDraining'. -/
def fnDrainingCard : Claim7 := { stood := { row := fnDrainingRow, standIns := [], harness := (true, "ed56cbcbf0bdfe7d75984e962cac63248c3c509354711b109c918affb041a21a"), looks := false }, kinds := [], alts := [], laidByText := true, laidKinds := [.data, .data, .data, .data, .pinned], laidTests := true, laidLooks := .later }
def FnDrainingCardSaid : Prop := Claim7.holds Tryz.pinned (.plain (OpenSpec.ofChange fnDrainingSpec)) fnDrainingCard

/-- THE SECOND FORM's CARD OF 'laws.FnSteps'. -/
def fnStepsUptoCard : Claim7 := { stood := { row := fnStepsUptoRow, standIns := [], harness := (true, "ed56cbcbf0bdfe7d75984e962cac63248c3c509354711b109c918affb041a21a"), looks := false }, kinds := [], alts := [], laidByText := true, laidKinds := [.data, .data, .data, .data, .pinned], laidTests := true, laidLooks := .later }
def FnStepsUptoCardSaid : Prop := Claim7.holds Tryz.pinned (.plain (OpenSpec.upto fnStepsSpec)) fnStepsUptoCard

/-- THE SECOND FORM's CARD OF 'laws.FnDraining'. -/
def fnDrainingUptoCard : Claim7 := { stood := { row := fnDrainingUptoRow, standIns := [], harness := (true, "ed56cbcbf0bdfe7d75984e962cac63248c3c509354711b109c918affb041a21a"), looks := false }, kinds := [], alts := [], laidByText := true, laidKinds := [.data, .data, .data, .data, .pinned], laidTests := true, laidLooks := .later }
def FnDrainingUptoCardSaid : Prop := Claim7.holds Tryz.pinned (.plain (OpenSpec.upto fnDrainingSpec)) fnDrainingUptoCard
end Rows
end Go.Proofs.YtaemjogbahcbcaaGreatDoor
