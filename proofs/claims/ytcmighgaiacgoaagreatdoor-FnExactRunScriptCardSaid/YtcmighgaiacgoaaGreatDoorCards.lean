/-
  DERIVED. GIVEN WITH THE SEED: THE CARDS: each row of YtcmighgaiacgoaaGreatDoorRows.lean that lists a variable, with what it lists TIED to the program's text (the seventh form; the later family's looks); each row that meets fmt, with fmt's text TOLD by the authors' own Lean function (tested against real Go, not proved from fmt's source: count such statements apart). THE CARD IS WHAT COUNTS. Prove the row's statement (the work); the ties are given (YtcmighgaiacgoaaGreatDoorTie.lean); close each card by the builder's one call (the guide's Derived/Test/ToyasCard.lean, 'card_holds'). Laid BY PROGRAM, IN A SANDBOX (cutbox-door.mjs). By AI agents, Wed Nov 11 2026. No macro, syntax, notation, axiom, sorry.
-/
import Derived.Test.YtcmighgaiacgoaaGreatDoorRows
import GoSem.ClaimSeven
namespace Go.Proofs.YtcmighgaiacgoaaGreatDoor
namespace Rows

/-- THE TIED CARD OF 'laws.FnExactRunScript'. -/
def fnExactRunScriptCard : Claim7 := { stood := { row := fnExactRunScriptRow, standIns := [], harness := (true, "733fb9ca32775e6d557c69b0abc92c6b7f2febb3c9bffbffa707661332c95b09"), looks := true }, kinds := [], alts := [], laidByText := true, laidKinds := [.data, .data, .data, .data, .sentinel, .sentinel, .pinned], laidTests := true, laidLooks := .later }
def FnExactRunScriptCardSaid : Prop := Claim7.holds Tryz.pinned (.plain (OpenSpec.ofChange fnExactRunScriptSpec)) fnExactRunScriptCard

/-- THE SECOND FORM's CARD OF 'laws.FnExactRunScript'. -/
def fnExactRunScriptUptoCard : Claim7 := { stood := { row := fnExactRunScriptUptoRow, standIns := [], harness := (true, "733fb9ca32775e6d557c69b0abc92c6b7f2febb3c9bffbffa707661332c95b09"), looks := true }, kinds := [], alts := [], laidByText := true, laidKinds := [.data, .data, .data, .data, .sentinel, .sentinel, .pinned], laidTests := true, laidLooks := .later }
def FnExactRunScriptUptoCardSaid : Prop := Claim7.holds Tryz.pinned (.plain (OpenSpec.upto fnExactRunScriptSpec)) fnExactRunScriptUptoCard
end Rows
end Go.Proofs.YtcmighgaiacgoaaGreatDoor
