/-
  DERIVED. GIVEN WITH THE SEED: THE CARDS: each row of YtmckdnddocfodaaGreatDoorRows.lean that lists a variable, with what it lists TIED to the program's text (the seventh form; the later family's looks); each row that meets fmt, with fmt's text TOLD by the authors' own Lean function (tested against real Go, not proved from fmt's source: count such statements apart). THE CARD IS WHAT COUNTS. Prove the row's statement (the work); the ties are given (YtmckdnddocfodaaGreatDoorTie.lean); close each card by the builder's one call (the guide's Derived/Test/ToyasCard.lean, 'card_holds'). Laid BY PROGRAM, IN A SANDBOX (cutbox-door.mjs). By AI agents, Wed Nov 11 2026. No macro, syntax, notation, axiom, sorry.
-/
import Derived.Test.YtmckdnddocfodaaGreatDoorRows
import GoSem.ClaimSeven
namespace Go.Proofs.YtmckdnddocfodaaGreatDoor
namespace Rows

/-- THE TIED CARD OF 'laws.FnSettling'. -/
def fnSettlingCard : Claim7 := { stood := { row := fnSettlingRow, standIns := [], harness := (true, "7b6f347587d59c34a357037c325d6c34999dfbe53f99a2b88df5c5ad56e3d519"), looks := false }, kinds := [], alts := [], laidByText := true, laidKinds := [.data, .data, .data, .data, .pinned], laidTests := true, laidLooks := .later }
def FnSettlingCardSaid : Prop := Claim7.holds Tryz.pinned (.plain (OpenSpec.ofChange fnSettlingSpec)) fnSettlingCard

/-- THE SECOND FORM's CARD OF 'laws.FnSettling'. -/
def fnSettlingUptoCard : Claim7 := { stood := { row := fnSettlingUptoRow, standIns := [], harness := (true, "7b6f347587d59c34a357037c325d6c34999dfbe53f99a2b88df5c5ad56e3d519"), looks := false }, kinds := [], alts := [], laidByText := true, laidKinds := [.data, .data, .data, .data, .pinned], laidTests := true, laidLooks := .later }
def FnSettlingUptoCardSaid : Prop := Claim7.holds Tryz.pinned (.plain (OpenSpec.upto fnSettlingSpec)) fnSettlingUptoCard
end Rows
end Go.Proofs.YtmckdnddocfodaaGreatDoor
