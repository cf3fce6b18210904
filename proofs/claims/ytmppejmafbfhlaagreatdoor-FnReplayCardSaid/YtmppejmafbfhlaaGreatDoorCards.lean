/-
  DERIVED. GIVEN WITH THE SEED: THE CARDS: each row of YtmppejmafbfhlaaGreatDoorRows.lean that lists a variable, with what it lists TIED to the program's text (the seventh form; the later family's looks); each row that meets fmt, with fmt's text TOLD by the authors' own Lean function (tested against real Go, not proved from fmt's source: count such statements apart). THE CARD IS WHAT COUNTS. Prove the row's statement (the work); the ties are given (YtmppejmafbfhlaaGreatDoorTie.lean); close each card by the builder's one call (the guide's Derived/Test/ToyasCard.lean, 'card_holds'). Laid BY PROGRAM, IN A SANDBOX (cutbox-door.mjs). By AI agents, Wed Nov 11 2026. No macro, syntax, notation, axiom, sorry.
-/
import Derived.Test.YtmppejmafbfhlaaGreatDoorRows
import GoSem.ClaimSeven
namespace Go.Proofs.YtmppejmafbfhlaaGreatDoor
namespace Rows

/-- THE TIED CARD OF 'laws.FnReplay'. -/
def fnReplayCard : Claim7 := { stood := { row := fnReplayRow, standIns := [], harness := (true, "54029cdcc878673fb7436c5366b3a82cfb6378c367248afe1b284d0b847c5d25"), looks := true }, kinds := [], alts := [], laidByText := true, laidKinds := [.data, .data, .data, .data, .sentinel, .sentinel, .pinned], laidTests := true, laidLooks := .later }
def FnReplayCardSaid : Prop := Claim7.holds Tryz.pinned (.plain (OpenSpec.ofChange fnReplaySpec)) fnReplayCard

/-- THE SECOND FORM's CARD OF 'laws.FnReplay'. -/
def fnReplayUptoCard : Claim7 := { stood := { row := fnReplayUptoRow, standIns := [], harness := (true, "54029cdcc878673fb7436c5366b3a82cfb6378c367248afe1b284d0b847c5d25"), looks := true }, kinds := [], alts := [], laidByText := true, laidKinds := [.data, .data, .data, .data, .sentinel, .sentinel, .pinned], laidTests := true, laidLooks := .later }
def FnReplayUptoCardSaid : Prop := Claim7.holds Tryz.pinned (.plain (OpenSpec.upto fnReplaySpec)) fnReplayUptoCard
end Rows
end Go.Proofs.YtmppejmafbfhlaaGreatDoor
