/-
  DERIVED. GIVEN WITH THE SEED: THE CARDS: each row of YtgogcgkocjpgoaaGreatDoorRows.lean that lists a variable, with what it lists TIED to the program's text (the seventh form; the later family's looks); each row that meets fmt, with fmt's text TOLD by the authors' own Lean function (tested against real Go, not proved from fmt's source: count such statements apart). THE CARD IS WHAT COUNTS. Prove the row's statement (the work); the ties are given (YtgogcgkocjpgoaaGreatDoorTie.lean); close each card by the builder's one call (the guide's Derived/Test/ToyasCard.lean, 'card_holds'). Laid BY PROGRAM, IN A SANDBOX (cutbox-door.mjs). By AI agents, Wed Nov 11 2026. No macro, syntax, notation, axiom, sorry.
-/
import Derived.Test.YtgogcgkocjpgoaaGreatDoorRows
import GoSem.ClaimSeven
namespace Go.Proofs.YtgogcgkocjpgoaaGreatDoor
namespace Rows

/-- THE TIED CARD OF 'laws.FnEntries'. -/
def fnEntriesCard : Claim7 := { stood := { row := fnEntriesRow, standIns := [], harness := (true, "d74c7a49888558fc62d059b4595d58b7e91dbb6da41a96610bcfbe75172f03ae"), looks := true }, kinds := [], alts := [], laidByText := true, laidKinds := [.data, .data, .data, .data, .sentinel, .sentinel, .pinned], laidTests := true, laidLooks := .later }
def FnEntriesCardSaid : Prop := Claim7.holds Tryz.pinned (.plain (OpenSpec.ofChange fnEntriesSpec)) fnEntriesCard

/-- THE TIED CARD OF 'laws.FnExactTickReceiver'. -/
def fnExactTickReceiverCard : Claim7 := { stood := { row := fnExactTickReceiverRow, standIns := [], harness := (true, "d74c7a49888558fc62d059b4595d58b7e91dbb6da41a96610bcfbe75172f03ae"), looks := true }, kinds := [], alts := [], laidByText := true, laidKinds := [.data, .pinned], laidTests := true, laidLooks := .later }
def FnExactTickReceiverCardSaid : Prop := Claim7.holds Tryz.pinned (.plain (OpenSpec.ofChange fnExactTickReceiverSpec)) fnExactTickReceiverCard

/-- THE TIED CARD OF 'laws.FnExactHearPacket'. -/
def fnExactHearPacketCard : Claim7 := { stood := { row := fnExactHearPacketRow, standIns := [], harness := (true, "d74c7a49888558fc62d059b4595d58b7e91dbb6da41a96610bcfbe75172f03ae"), looks := true }, kinds := [], alts := [], laidByText := true, laidKinds := [.data, .pinned], laidTests := true, laidLooks := .later }
def FnExactHearPacketCardSaid : Prop := Claim7.holds Tryz.pinned (.plain (OpenSpec.ofChange fnExactHearPacketSpec)) fnExactHearPacketCard

/-- THE TIED CARD OF 'laws.FnExactHearAll'. -/
def fnExactHearAllCard : Claim7 := { stood := { row := fnExactHearAllRow, standIns := [], harness := (true, "d74c7a49888558fc62d059b4595d58b7e91dbb6da41a96610bcfbe75172f03ae"), looks := true }, kinds := [], alts := [], laidByText := true, laidKinds := [.data, .pinned], laidTests := true, laidLooks := .later }
def FnExactHearAllCardSaid : Prop := Claim7.holds Tryz.pinned (.plain (OpenSpec.ofChange fnExactHearAllSpec)) fnExactHearAllCard

/-- THE TIED CARD OF 'laws.FnReceiverTicks'. -/
def fnReceiverTicksCard : Claim7 := { stood := { row := fnReceiverTicksRow, standIns := [], harness := (true, "d74c7a49888558fc62d059b4595d58b7e91dbb6da41a96610bcfbe75172f03ae"), looks := true }, kinds := [], alts := [], laidByText := true, laidKinds := [.data, .pinned], laidTests := true, laidLooks := .later }
def FnReceiverTicksCardSaid : Prop := Claim7.holds Tryz.pinned (.plain (OpenSpec.ofChange fnReceiverTicksSpec)) fnReceiverTicksCard

/-- THE TIED CARD OF 'laws.FnReceivers'. -/
def fnReceiversCard : Claim7 := { stood := { row := fnReceiversRow, standIns := [], harness := (true, "d74c7a49888558fc62d059b4595d58b7e91dbb6da41a96610bcfbe75172f03ae"), looks := true }, kinds := [], alts := [], laidByText := true, laidKinds := [.data, .pinned], laidTests := true, laidLooks := .later }
def FnReceiversCardSaid : Prop := Claim7.holds Tryz.pinned (.plain (OpenSpec.ofChange fnReceiversSpec)) fnReceiversCard

/-- THE TIED CARD OF 'laws.FnDeliveries'. -/
def fnDeliveriesCard : Claim7 := { stood := { row := fnDeliveriesRow, standIns := [], harness := (true, "d74c7a49888558fc62d059b4595d58b7e91dbb6da41a96610bcfbe75172f03ae"), looks := true }, kinds := [], alts := [], laidByText := true, laidKinds := [.data, .data, .data, .data, .sentinel, .sentinel, .pinned], laidTests := true, laidLooks := .later }
def FnDeliveriesCardSaid : Prop := Claim7.holds Tryz.pinned (.plain (OpenSpec.ofChange fnDeliveriesSpec)) fnDeliveriesCard

/-- THE SECOND FORM's CARD OF 'laws.FnEntries'. -/
def fnEntriesUptoCard : Claim7 := { stood := { row := fnEntriesUptoRow, standIns := [], harness := (true, "d74c7a49888558fc62d059b4595d58b7e91dbb6da41a96610bcfbe75172f03ae"), looks := true }, kinds := [], alts := [], laidByText := true, laidKinds := [.data, .data, .data, .data, .sentinel, .sentinel, .pinned], laidTests := true, laidLooks := .later }
def FnEntriesUptoCardSaid : Prop := Claim7.holds Tryz.pinned (.plain (OpenSpec.upto fnEntriesSpec)) fnEntriesUptoCard

/-- THE SECOND FORM's CARD OF 'laws.FnExactTickReceiver'. -/
def fnExactTickReceiverUptoCard : Claim7 := { stood := { row := fnExactTickReceiverUptoRow, standIns := [], harness := (true, "d74c7a49888558fc62d059b4595d58b7e91dbb6da41a96610bcfbe75172f03ae"), looks := true }, kinds := [], alts := [], laidByText := true, laidKinds := [.data, .pinned], laidTests := true, laidLooks := .later }
def FnExactTickReceiverUptoCardSaid : Prop := Claim7.holds Tryz.pinned (.plain (OpenSpec.upto fnExactTickReceiverSpec)) fnExactTickReceiverUptoCard

/-- THE SECOND FORM's CARD OF 'laws.FnExactHearPacket'. -/
def fnExactHearPacketUptoCard : Claim7 := { stood := { row := fnExactHearPacketUptoRow, standIns := [], harness := (true, "d74c7a49888558fc62d059b4595d58b7e91dbb6da41a96610bcfbe75172f03ae"), looks := true }, kinds := [], alts := [], laidByText := true, laidKinds := [.data, .pinned], laidTests := true, laidLooks := .later }
def FnExactHearPacketUptoCardSaid : Prop := Claim7.holds Tryz.pinned (.plain (OpenSpec.upto fnExactHearPacketSpec)) fnExactHearPacketUptoCard

/-- THE SECOND FORM's CARD OF 'laws.FnExactHearAll'. -/
def fnExactHearAllUptoCard : Claim7 := { stood := { row := fnExactHearAllUptoRow, standIns := [], harness := (true, "d74c7a49888558fc62d059b4595d58b7e91dbb6da41a96610bcfbe75172f03ae"), looks := true }, kinds := [], alts := [], laidByText := true, laidKinds := [.data, .pinned], laidTests := true, laidLooks := .later }
def FnExactHearAllUptoCardSaid : Prop := Claim7.holds Tryz.pinned (.plain (OpenSpec.upto fnExactHearAllSpec)) fnExactHearAllUptoCard

/-- THE SECOND FORM's CARD OF 'laws.FnReceiverTicks'. -/
def fnReceiverTicksUptoCard : Claim7 := { stood := { row := fnReceiverTicksUptoRow, standIns := [], harness := (true, "d74c7a49888558fc62d059b4595d58b7e91dbb6da41a96610bcfbe75172f03ae"), looks := true }, kinds := [], alts := [], laidByText := true, laidKinds := [.data, .pinned], laidTests := true, laidLooks := .later }
def FnReceiverTicksUptoCardSaid : Prop := Claim7.holds Tryz.pinned (.plain (OpenSpec.upto fnReceiverTicksSpec)) fnReceiverTicksUptoCard

/-- THE SECOND FORM's CARD OF 'laws.FnReceivers'. -/
def fnReceiversUptoCard : Claim7 := { stood := { row := fnReceiversUptoRow, standIns := [], harness := (true, "d74c7a49888558fc62d059b4595d58b7e91dbb6da41a96610bcfbe75172f03ae"), looks := true }, kinds := [], alts := [], laidByText := true, laidKinds := [.data, .pinned], laidTests := true, laidLooks := .later }
def FnReceiversUptoCardSaid : Prop := Claim7.holds Tryz.pinned (.plain (OpenSpec.upto fnReceiversSpec)) fnReceiversUptoCard

/-- THE SECOND FORM's CARD OF 'laws.FnDeliveries'. -/
def fnDeliveriesUptoCard : Claim7 := { stood := { row := fnDeliveriesUptoRow, standIns := [], harness := (true, "d74c7a49888558fc62d059b4595d58b7e91dbb6da41a96610bcfbe75172f03ae"), looks := true }, kinds := [], alts := [], laidByText := true, laidKinds := [.data, .data, .data, .data, .sentinel, .sentinel, .pinned], laidTests := true, laidLooks := .later }
def FnDeliveriesUptoCardSaid : Prop := Claim7.holds Tryz.pinned (.plain (OpenSpec.upto fnDeliveriesSpec)) fnDeliveriesUptoCard
end Rows
end Go.Proofs.YtgogcgkocjpgoaaGreatDoor
