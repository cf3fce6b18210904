/-
  DERIVED. GIVEN WITH THE SEED: THE CARDS: each row of YtgmbfohkpfineaaGreatDoorRows.lean that lists a variable, with what it lists TIED to the program's text (the seventh form; the later family's looks); each row that meets fmt, with fmt's text TOLD by the authors' own Lean function (tested against real Go, not proved from fmt's source: count such statements apart). THE CARD IS WHAT COUNTS. Prove the row's statement (the work); the ties are given (YtgmbfohkpfineaaGreatDoorTie.lean); close each card by the builder's one call (the guide's Derived/Test/ToyasCard.lean, 'card_holds'). Laid BY PROGRAM, IN A SANDBOX (cutbox-door.mjs). By AI agents, Wed Nov 11 2026. No macro, syntax, notation, axiom, sorry.
-/
import Derived.Test.YtgmbfohkpfineaaGreatDoorRows
import GoSem.ClaimSeven
namespace Go.Proofs.YtgmbfohkpfineaaGreatDoor
namespace Rows

/-- THE TIED CARD OF 'laws.FnExactStepNet'. -/
def fnExactStepNetCard : Claim7 := { stood := { row := fnExactStepNetRow, standIns := [], harness := (true, "1c04f7e599d0aa996fe08ab42752e3880c287820def7423eec287ec5f226142d"), looks := false }, kinds := [], alts := [], laidByText := true, laidKinds := [.data, .data, .data, .data, .pinned], laidTests := true, laidLooks := .later }
def FnExactStepNetCardSaid : Prop := Claim7.holds Tryz.pinned (.plain (OpenSpec.ofChange fnExactStepNetSpec)) fnExactStepNetCard

/-- THE TIED CARD OF 'laws.FnExactDrainNet'. -/
def fnExactDrainNetCard : Claim7 := { stood := { row := fnExactDrainNetRow, standIns := [], harness := (true, "1c04f7e599d0aa996fe08ab42752e3880c287820def7423eec287ec5f226142d"), looks := false }, kinds := [], alts := [], laidByText := true, laidKinds := [.data, .data, .data, .data, .pinned], laidTests := true, laidLooks := .later }
def FnExactDrainNetCardSaid : Prop := Claim7.holds Tryz.pinned (.plain (OpenSpec.ofChange fnExactDrainNetSpec)) fnExactDrainNetCard

/-- THE TIED CARD OF 'laws.FnExactFinishNet'. -/
def fnExactFinishNetCard : Claim7 := { stood := { row := fnExactFinishNetRow, standIns := [], harness := (true, "1c04f7e599d0aa996fe08ab42752e3880c287820def7423eec287ec5f226142d"), looks := false }, kinds := [], alts := [], laidByText := true, laidKinds := [.data, .data, .data, .data, .pinned], laidTests := true, laidLooks := .later }
def FnExactFinishNetCardSaid : Prop := Claim7.holds Tryz.pinned (.plain (OpenSpec.ofChange fnExactFinishNetSpec)) fnExactFinishNetCard

/-- THE TIED CARD OF 'laws.FnExactRunNet'. -/
def fnExactRunNetCard : Claim7 := { stood := { row := fnExactRunNetRow, standIns := [], harness := (true, "1c04f7e599d0aa996fe08ab42752e3880c287820def7423eec287ec5f226142d"), looks := false }, kinds := [], alts := [], laidByText := true, laidKinds := [.data, .data, .data, .data, .pinned], laidTests := true, laidLooks := .later }
def FnExactRunNetCardSaid : Prop := Claim7.holds Tryz.pinned (.plain (OpenSpec.ofChange fnExactRunNetSpec)) fnExactRunNetCard

/-- THE SECOND FORM's CARD OF 'laws.FnExactStepNet'. -/
def fnExactStepNetUptoCard : Claim7 := { stood := { row := fnExactStepNetUptoRow, standIns := [], harness := (true, "1c04f7e599d0aa996fe08ab42752e3880c287820def7423eec287ec5f226142d"), looks := false }, kinds := [], alts := [], laidByText := true, laidKinds := [.data, .data, .data, .data, .pinned], laidTests := true, laidLooks := .later }
def FnExactStepNetUptoCardSaid : Prop := Claim7.holds Tryz.pinned (.plain (OpenSpec.upto fnExactStepNetSpec)) fnExactStepNetUptoCard

/-- THE SECOND FORM's CARD OF 'laws.FnExactDrainNet'. -/
def fnExactDrainNetUptoCard : Claim7 := { stood := { row := fnExactDrainNetUptoRow, standIns := [], harness := (true, "1c04f7e599d0aa996fe08ab42752e3880c287820def7423eec287ec5f226142d"), looks := false }, kinds := [], alts := [], laidByText := true, laidKinds := [.data, .data, .data, .data, .pinned], laidTests := true, laidLooks := .later }
def FnExactDrainNetUptoCardSaid : Prop := Claim7.holds Tryz.pinned (.plain (OpenSpec.upto fnExactDrainNetSpec)) fnExactDrainNetUptoCard

/-- THE SECOND FORM's CARD OF 'laws.FnExactFinishNet'. -/
def fnExactFinishNetUptoCard : Claim7 := { stood := { row := fnExactFinishNetUptoRow, standIns := [], harness := (true, "1c04f7e599d0aa996fe08ab42752e3880c287820def7423eec287ec5f226142d"), looks := false }, kinds := [], alts := [], laidByText := true, laidKinds := [.data, .data, .data, .data, .pinned], laidTests := true, laidLooks := .later }
def FnExactFinishNetUptoCardSaid : Prop := Claim7.holds Tryz.pinned (.plain (OpenSpec.upto fnExactFinishNetSpec)) fnExactFinishNetUptoCard

/-- THE SECOND FORM's CARD OF 'laws.FnExactRunNet'. -/
def fnExactRunNetUptoCard : Claim7 := { stood := { row := fnExactRunNetUptoRow, standIns := [], harness := (true, "1c04f7e599d0aa996fe08ab42752e3880c287820def7423eec287ec5f226142d"), looks := false }, kinds := [], alts := [], laidByText := true, laidKinds := [.data, .data, .data, .data, .pinned], laidTests := true, laidLooks := .later }
def FnExactRunNetUptoCardSaid : Prop := Claim7.holds Tryz.pinned (.plain (OpenSpec.upto fnExactRunNetSpec)) fnExactRunNetUptoCard
end Rows
end Go.Proofs.YtgmbfohkpfineaaGreatDoor
