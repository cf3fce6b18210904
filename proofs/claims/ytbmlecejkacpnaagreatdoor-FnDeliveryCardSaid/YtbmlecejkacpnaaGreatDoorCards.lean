/-
  DERIVED. GIVEN WITH THE SEED: THE CARDS: each row of YtbmlecejkacpnaaGreatDoorRows.lean that lists a variable, with what it lists TIED to the program's text (the seventh form; the later family's looks); each row that meets fmt, with fmt's text TOLD by the authors' own Lean function (tested against real Go, not proved from fmt's source: count such statements apart). THE CARD IS WHAT COUNTS. Prove the row's statement (the work); the ties are given (YtbmlecejkacpnaaGreatDoorTie.lean); close each card by the builder's one call (the guide's Derived/Test/ToyasCard.lean, 'card_holds'). Laid BY PROGRAM, IN A SANDBOX (cutbox-door.mjs). By AI agents, Wed Nov 11 2026. No macro, syntax, notation, axiom, sorry.
-/
import Derived.Test.YtbmlecejkacpnaaGreatDoorRows
import GoSem.ClaimSeven
namespace Go.Proofs.YtbmlecejkacpnaaGreatDoor
namespace Rows

/-- THE TIED CARD OF 'laws.FnDelivery'. -/
def fnDeliveryCard : Claim7 := { stood := { row := fnDeliveryRow, standIns := [], harness := (true, "3bb94a3e7c3aefe295885b51c51a20ad88f9095f0c394df11b7523f2365af80a"), looks := false }, kinds := [], alts := [], laidByText := true, laidKinds := [.data, .data, .data, .data, .pinned], laidTests := true, laidLooks := .later }
def FnDeliveryCardSaid : Prop := Claim7.holds Tryz.pinned (.plain (OpenSpec.ofChange fnDeliverySpec)) fnDeliveryCard

/-- THE TIED CARD OF 'laws.FnSettling'. -/
def fnSettlingCard : Claim7 := { stood := { row := fnSettlingRow, standIns := [], harness := (true, "3bb94a3e7c3aefe295885b51c51a20ad88f9095f0c394df11b7523f2365af80a"), looks := false }, kinds := [], alts := [], laidByText := true, laidKinds := [.data, .data, .data, .data, .pinned], laidTests := true, laidLooks := .later }
def FnSettlingCardSaid : Prop := Claim7.holds Tryz.pinned (.plain (OpenSpec.ofChange fnSettlingSpec)) fnSettlingCard

/-- THE SECOND FORM's CARD OF 'laws.FnDelivery'. -/
def fnDeliveryUptoCard : Claim7 := { stood := { row := fnDeliveryUptoRow, standIns := [], harness := (true, "3bb94a3e7c3aefe295885b51c51a20ad88f9095f0c394df11b7523f2365af80a"), looks := false }, kinds := [], alts := [], laidByText := true, laidKinds := [.data, .data, .data, .data, .pinned], laidTests := true, laidLooks := .later }
def FnDeliveryUptoCardSaid : Prop := Claim7.holds Tryz.pinned (.plain (OpenSpec.upto fnDeliverySpec)) fnDeliveryUptoCard

/-- THE SECOND FORM's CARD OF 'laws.FnSettling'. -/
def fnSettlingUptoCard : Claim7 := { stood := { row := fnSettlingUptoRow, standIns := [], harness := (true, "3bb94a3e7c3aefe295885b51c51a20ad88f9095f0c394df11b7523f2365af80a"), looks := false }, kinds := [], alts := [], laidByText := true, laidKinds := [.data, .data, .data, .data, .pinned], laidTests := true, laidLooks := .later }
def FnSettlingUptoCardSaid : Prop := Claim7.holds Tryz.pinned (.plain (OpenSpec.upto fnSettlingSpec)) fnSettlingUptoCard
end Rows
end Go.Proofs.YtbmlecejkacpnaaGreatDoor
