/-
  DERIVED. GIVEN WITH THE SEED: THE CARDS: each row of YtjbfffopbpajiaaDoorRows.lean that lists a variable, with what it lists TIED to the program's text (the seventh form; the later family's looks); each row that meets fmt, with fmt's text TOLD by the authors' own Lean function (tested against real Go, not proved from fmt's source: count such statements apart). THE CARD IS WHAT COUNTS. Prove the row's statement (the work); the ties are given (YtjbfffopbpajiaaDoorTie.lean); close each card by the builder's one call (the guide's Derived/Test/ToyasCard.lean, 'card_holds'). Laid BY PROGRAM, IN A SANDBOX (cutbox-door.mjs). By AI agents, Wed Nov 11 2026. No macro, syntax, notation, axiom, sorry.
-/
import Derived.Test.YtjbfffopbpajiaaDoorRows
import GoSem.ClaimSeven
namespace Go.Proofs.YtjbfffopbpajiaaDoor
namespace Rows

/-- THE TIED CARD OF 'laws.FnExactEncodeRecord'. -/
def fnExactEncodeRecordCard : Claim7 := { stood := { row := fnExactEncodeRecordRow, standIns := [], harness := (true, "73447a063fffd137f18ceee948157de3ed9d913a51d5f5a96dcf4c4bde391f26"), looks := false }, kinds := [], alts := [], laidByText := true, laidKinds := [.data, .data, .data], laidTests := true, laidLooks := .later }
def FnExactEncodeRecordCardSaid : Prop := Claim7.holds Tryd.pinned (.plain (OpenSpec.ofChange fnExactEncodeRecordSpec)) fnExactEncodeRecordCard

/-- THE TIED CARD OF 'laws.FnExactDropItems'. -/
def fnExactDropItemsCard : Claim7 := { stood := { row := fnExactDropItemsRow, standIns := [], harness := (true, "73447a063fffd137f18ceee948157de3ed9d913a51d5f5a96dcf4c4bde391f26"), looks := false }, kinds := [], alts := [], laidByText := true, laidKinds := [.data, .pinned], laidTests := true, laidLooks := .later }
def FnExactDropItemsCardSaid : Prop := Claim7.holds Tryd.pinned (.plain (OpenSpec.ofChange fnExactDropItemsSpec)) fnExactDropItemsCard

/-- THE TIED CARD OF 'laws.FnExactResizeWindow'. -/
def fnExactResizeWindowCard : Claim7 := { stood := { row := fnExactResizeWindowRow, standIns := [], harness := (true, "73447a063fffd137f18ceee948157de3ed9d913a51d5f5a96dcf4c4bde391f26"), looks := false }, kinds := [], alts := [], laidByText := true, laidKinds := [.data, .pinned], laidTests := true, laidLooks := .later }
def FnExactResizeWindowCardSaid : Prop := Claim7.holds Tryd.pinned (.plain (OpenSpec.ofChange fnExactResizeWindowSpec)) fnExactResizeWindowCard

/-- THE SECOND FORM's CARD OF 'laws.FnExactEncodeRecord'. -/
def fnExactEncodeRecordUptoCard : Claim7 := { stood := { row := fnExactEncodeRecordUptoRow, standIns := [], harness := (true, "73447a063fffd137f18ceee948157de3ed9d913a51d5f5a96dcf4c4bde391f26"), looks := false }, kinds := [], alts := [], laidByText := true, laidKinds := [.data, .data, .data], laidTests := true, laidLooks := .later }
def FnExactEncodeRecordUptoCardSaid : Prop := Claim7.holds Tryd.pinned (.plain (OpenSpec.upto fnExactEncodeRecordSpec)) fnExactEncodeRecordUptoCard

/-- THE SECOND FORM's CARD OF 'laws.FnExactDropItems'. -/
def fnExactDropItemsUptoCard : Claim7 := { stood := { row := fnExactDropItemsUptoRow, standIns := [], harness := (true, "73447a063fffd137f18ceee948157de3ed9d913a51d5f5a96dcf4c4bde391f26"), looks := false }, kinds := [], alts := [], laidByText := true, laidKinds := [.data, .pinned], laidTests := true, laidLooks := .later }
def FnExactDropItemsUptoCardSaid : Prop := Claim7.holds Tryd.pinned (.plain (OpenSpec.upto fnExactDropItemsSpec)) fnExactDropItemsUptoCard

/-- THE SECOND FORM's CARD OF 'laws.FnExactResizeWindow'. -/
def fnExactResizeWindowUptoCard : Claim7 := { stood := { row := fnExactResizeWindowUptoRow, standIns := [], harness := (true, "73447a063fffd137f18ceee948157de3ed9d913a51d5f5a96dcf4c4bde391f26"), looks := false }, kinds := [], alts := [], laidByText := true, laidKinds := [.data, .pinned], laidTests := true, laidLooks := .later }
def FnExactResizeWindowUptoCardSaid : Prop := Claim7.holds Tryd.pinned (.plain (OpenSpec.upto fnExactResizeWindowSpec)) fnExactResizeWindowUptoCard
end Rows
end Go.Proofs.YtjbfffopbpajiaaDoor
