/-
  DERIVED. GIVEN WITH THE SEED: THE CARDS: each row of YtnbccfnnamgfiaaDoorRows.lean that lists a variable, with what it lists TIED to the program's text (the seventh form; the later family's looks); each row that meets fmt, with fmt's text TOLD by the authors' own Lean function (tested against real Go, not proved from fmt's source: count such statements apart). THE CARD IS WHAT COUNTS. Prove the row's statement (the work); the ties are given (YtnbccfnnamgfiaaDoorTie.lean); close each card by the builder's one call (the guide's Derived/Test/ToyasCard.lean, 'card_holds'). Laid BY PROGRAM, IN A SANDBOX (cutbox-door.mjs). By AI agents, Wed Nov 11 2026. No macro, syntax, notation, axiom, sorry.
-/
import Derived.Test.YtnbccfnnamgfiaaDoorRows
import GoSem.ClaimSeven
namespace Go.Proofs.YtnbccfnnamgfiaaDoor
namespace Rows

/-- THE TIED CARD OF 'laws.FnExactDropFrom'. -/
def fnExactDropFromCard : Claim7 := { stood := { row := fnExactDropFromRow, standIns := [], harness := (true, "73bcfc0a1588732d2218a3c7c4d085a7409efbc9710ab14bcd66b1d5b69a4c48"), looks := false }, kinds := [], alts := [], laidByText := true, laidKinds := [.data, .pinned], laidTests := true, laidLooks := .later }
def FnExactDropFromCardSaid : Prop := Claim7.holds Tryd.pinned (.plain (OpenSpec.ofChange fnExactDropFromSpec)) fnExactDropFromCard

/-- THE TIED CARD OF 'laws.FnExactTakeFrom'. -/
def fnExactTakeFromCard : Claim7 := { stood := { row := fnExactTakeFromRow, standIns := [], harness := (true, "73bcfc0a1588732d2218a3c7c4d085a7409efbc9710ab14bcd66b1d5b69a4c48"), looks := false }, kinds := [], alts := [], laidByText := true, laidKinds := [.data, .pinned], laidTests := true, laidLooks := .later }
def FnExactTakeFromCardSaid : Prop := Claim7.holds Tryd.pinned (.plain (OpenSpec.ofChange fnExactTakeFromSpec)) fnExactTakeFromCard

/-- THE TIED CARD OF 'laws.FnExactPushItem'. -/
def fnExactPushItemCard : Claim7 := { stood := { row := fnExactPushItemRow, standIns := [], harness := (true, "73bcfc0a1588732d2218a3c7c4d085a7409efbc9710ab14bcd66b1d5b69a4c48"), looks := false }, kinds := [], alts := [], laidByText := true, laidKinds := [.data, .pinned], laidTests := true, laidLooks := .later }
def FnExactPushItemCardSaid : Prop := Claim7.holds Tryd.pinned (.plain (OpenSpec.ofChange fnExactPushItemSpec)) fnExactPushItemCard

/-- THE TIED CARD OF 'laws.FnExactGiveUpTo'. -/
def fnExactGiveUpToCard : Claim7 := { stood := { row := fnExactGiveUpToRow, standIns := [], harness := (true, "73bcfc0a1588732d2218a3c7c4d085a7409efbc9710ab14bcd66b1d5b69a4c48"), looks := false }, kinds := [], alts := [], laidByText := true, laidKinds := [.data, .pinned], laidTests := true, laidLooks := .later }
def FnExactGiveUpToCardSaid : Prop := Claim7.holds Tryd.pinned (.plain (OpenSpec.ofChange fnExactGiveUpToSpec)) fnExactGiveUpToCard

/-- THE TIED CARD OF 'laws.FnExactTakeItem'. -/
def fnExactTakeItemCard : Claim7 := { stood := { row := fnExactTakeItemRow, standIns := [], harness := (true, "73bcfc0a1588732d2218a3c7c4d085a7409efbc9710ab14bcd66b1d5b69a4c48"), looks := false }, kinds := [], alts := [], laidByText := true, laidKinds := [.data, .pinned], laidTests := true, laidLooks := .later }
def FnExactTakeItemCardSaid : Prop := Claim7.holds Tryd.pinned (.plain (OpenSpec.ofChange fnExactTakeItemSpec)) fnExactTakeItemCard

/-- THE TIED CARD OF 'laws.FnExactSendOn'. -/
def fnExactSendOnCard : Claim7 := { stood := { row := fnExactSendOnRow, standIns := [], harness := (true, "73bcfc0a1588732d2218a3c7c4d085a7409efbc9710ab14bcd66b1d5b69a4c48"), looks := false }, kinds := [], alts := [], laidByText := true, laidKinds := [.data, .pinned], laidTests := true, laidLooks := .later }
def FnExactSendOnCardSaid : Prop := Claim7.holds Tryd.pinned (.plain (OpenSpec.ofChange fnExactSendOnSpec)) fnExactSendOnCard

/-- THE TIED CARD OF 'laws.FnExactSendAll'. -/
def fnExactSendAllCard : Claim7 := { stood := { row := fnExactSendAllRow, standIns := [], harness := (true, "73bcfc0a1588732d2218a3c7c4d085a7409efbc9710ab14bcd66b1d5b69a4c48"), looks := false }, kinds := [], alts := [], laidByText := true, laidKinds := [.data, .pinned], laidTests := true, laidLooks := .later }
def FnExactSendAllCardSaid : Prop := Claim7.holds Tryd.pinned (.plain (OpenSpec.ofChange fnExactSendAllSpec)) fnExactSendAllCard

/-- THE TIED CARD OF 'laws.FnExactTrimSource'. -/
def fnExactTrimSourceCard : Claim7 := { stood := { row := fnExactTrimSourceRow, standIns := [], harness := (true, "73bcfc0a1588732d2218a3c7c4d085a7409efbc9710ab14bcd66b1d5b69a4c48"), looks := false }, kinds := [], alts := [], laidByText := true, laidKinds := [.data, .pinned], laidTests := true, laidLooks := .later }
def FnExactTrimSourceCardSaid : Prop := Claim7.holds Tryd.pinned (.plain (OpenSpec.ofChange fnExactTrimSourceSpec)) fnExactTrimSourceCard

/-- THE TIED CARD OF 'laws.FnExactSendFrom'. -/
def fnExactSendFromCard : Claim7 := { stood := { row := fnExactSendFromRow, standIns := [], harness := (true, "73bcfc0a1588732d2218a3c7c4d085a7409efbc9710ab14bcd66b1d5b69a4c48"), looks := false }, kinds := [], alts := [], laidByText := true, laidKinds := [.data, .pinned], laidTests := true, laidLooks := .later }
def FnExactSendFromCardSaid : Prop := Claim7.holds Tryd.pinned (.plain (OpenSpec.ofChange fnExactSendFromSpec)) fnExactSendFromCard

/-- THE TIED CARD OF 'laws.FnExactTickSource'. -/
def fnExactTickSourceCard : Claim7 := { stood := { row := fnExactTickSourceRow, standIns := [], harness := (true, "73bcfc0a1588732d2218a3c7c4d085a7409efbc9710ab14bcd66b1d5b69a4c48"), looks := false }, kinds := [], alts := [], laidByText := true, laidKinds := [.data, .pinned], laidTests := true, laidLooks := .later }
def FnExactTickSourceCardSaid : Prop := Claim7.holds Tryd.pinned (.plain (OpenSpec.ofChange fnExactTickSourceSpec)) fnExactTickSourceCard

/-- THE SECOND FORM's CARD OF 'laws.FnExactDropFrom'. -/
def fnExactDropFromUptoCard : Claim7 := { stood := { row := fnExactDropFromUptoRow, standIns := [], harness := (true, "73bcfc0a1588732d2218a3c7c4d085a7409efbc9710ab14bcd66b1d5b69a4c48"), looks := false }, kinds := [], alts := [], laidByText := true, laidKinds := [.data, .pinned], laidTests := true, laidLooks := .later }
def FnExactDropFromUptoCardSaid : Prop := Claim7.holds Tryd.pinned (.plain (OpenSpec.upto fnExactDropFromSpec)) fnExactDropFromUptoCard

/-- THE SECOND FORM's CARD OF 'laws.FnExactTakeFrom'. -/
def fnExactTakeFromUptoCard : Claim7 := { stood := { row := fnExactTakeFromUptoRow, standIns := [], harness := (true, "73bcfc0a1588732d2218a3c7c4d085a7409efbc9710ab14bcd66b1d5b69a4c48"), looks := false }, kinds := [], alts := [], laidByText := true, laidKinds := [.data, .pinned], laidTests := true, laidLooks := .later }
def FnExactTakeFromUptoCardSaid : Prop := Claim7.holds Tryd.pinned (.plain (OpenSpec.upto fnExactTakeFromSpec)) fnExactTakeFromUptoCard

/-- THE SECOND FORM's CARD OF 'laws.FnExactPushItem'. -/
def fnExactPushItemUptoCard : Claim7 := { stood := { row := fnExactPushItemUptoRow, standIns := [], harness := (true, "73bcfc0a1588732d2218a3c7c4d085a7409efbc9710ab14bcd66b1d5b69a4c48"), looks := false }, kinds := [], alts := [], laidByText := true, laidKinds := [.data, .pinned], laidTests := true, laidLooks := .later }
def FnExactPushItemUptoCardSaid : Prop := Claim7.holds Tryd.pinned (.plain (OpenSpec.upto fnExactPushItemSpec)) fnExactPushItemUptoCard

/-- THE SECOND FORM's CARD OF 'laws.FnExactGiveUpTo'. -/
def fnExactGiveUpToUptoCard : Claim7 := { stood := { row := fnExactGiveUpToUptoRow, standIns := [], harness := (true, "73bcfc0a1588732d2218a3c7c4d085a7409efbc9710ab14bcd66b1d5b69a4c48"), looks := false }, kinds := [], alts := [], laidByText := true, laidKinds := [.data, .pinned], laidTests := true, laidLooks := .later }
def FnExactGiveUpToUptoCardSaid : Prop := Claim7.holds Tryd.pinned (.plain (OpenSpec.upto fnExactGiveUpToSpec)) fnExactGiveUpToUptoCard

/-- THE SECOND FORM's CARD OF 'laws.FnExactTakeItem'. -/
def fnExactTakeItemUptoCard : Claim7 := { stood := { row := fnExactTakeItemUptoRow, standIns := [], harness := (true, "73bcfc0a1588732d2218a3c7c4d085a7409efbc9710ab14bcd66b1d5b69a4c48"), looks := false }, kinds := [], alts := [], laidByText := true, laidKinds := [.data, .pinned], laidTests := true, laidLooks := .later }
def FnExactTakeItemUptoCardSaid : Prop := Claim7.holds Tryd.pinned (.plain (OpenSpec.upto fnExactTakeItemSpec)) fnExactTakeItemUptoCard

/-- THE SECOND FORM's CARD OF 'laws.FnExactSendOn'. -/
def fnExactSendOnUptoCard : Claim7 := { stood := { row := fnExactSendOnUptoRow, standIns := [], harness := (true, "73bcfc0a1588732d2218a3c7c4d085a7409efbc9710ab14bcd66b1d5b69a4c48"), looks := false }, kinds := [], alts := [], laidByText := true, laidKinds := [.data, .pinned], laidTests := true, laidLooks := .later }
def FnExactSendOnUptoCardSaid : Prop := Claim7.holds Tryd.pinned (.plain (OpenSpec.upto fnExactSendOnSpec)) fnExactSendOnUptoCard

/-- THE SECOND FORM's CARD OF 'laws.FnExactSendAll'. -/
def fnExactSendAllUptoCard : Claim7 := { stood := { row := fnExactSendAllUptoRow, standIns := [], harness := (true, "73bcfc0a1588732d2218a3c7c4d085a7409efbc9710ab14bcd66b1d5b69a4c48"), looks := false }, kinds := [], alts := [], laidByText := true, laidKinds := [.data, .pinned], laidTests := true, laidLooks := .later }
def FnExactSendAllUptoCardSaid : Prop := Claim7.holds Tryd.pinned (.plain (OpenSpec.upto fnExactSendAllSpec)) fnExactSendAllUptoCard

/-- THE SECOND FORM's CARD OF 'laws.FnExactTrimSource'. -/
def fnExactTrimSourceUptoCard : Claim7 := { stood := { row := fnExactTrimSourceUptoRow, standIns := [], harness := (true, "73bcfc0a1588732d2218a3c7c4d085a7409efbc9710ab14bcd66b1d5b69a4c48"), looks := false }, kinds := [], alts := [], laidByText := true, laidKinds := [.data, .pinned], laidTests := true, laidLooks := .later }
def FnExactTrimSourceUptoCardSaid : Prop := Claim7.holds Tryd.pinned (.plain (OpenSpec.upto fnExactTrimSourceSpec)) fnExactTrimSourceUptoCard

/-- THE SECOND FORM's CARD OF 'laws.FnExactSendFrom'. -/
def fnExactSendFromUptoCard : Claim7 := { stood := { row := fnExactSendFromUptoRow, standIns := [], harness := (true, "73bcfc0a1588732d2218a3c7c4d085a7409efbc9710ab14bcd66b1d5b69a4c48"), looks := false }, kinds := [], alts := [], laidByText := true, laidKinds := [.data, .pinned], laidTests := true, laidLooks := .later }
def FnExactSendFromUptoCardSaid : Prop := Claim7.holds Tryd.pinned (.plain (OpenSpec.upto fnExactSendFromSpec)) fnExactSendFromUptoCard

/-- THE SECOND FORM's CARD OF 'laws.FnExactTickSource'. -/
def fnExactTickSourceUptoCard : Claim7 := { stood := { row := fnExactTickSourceUptoRow, standIns := [], harness := (true, "73bcfc0a1588732d2218a3c7c4d085a7409efbc9710ab14bcd66b1d5b69a4c48"), looks := false }, kinds := [], alts := [], laidByText := true, laidKinds := [.data, .pinned], laidTests := true, laidLooks := .later }
def FnExactTickSourceUptoCardSaid : Prop := Claim7.holds Tryd.pinned (.plain (OpenSpec.upto fnExactTickSourceSpec)) fnExactTickSourceUptoCard
end Rows
end Go.Proofs.YtnbccfnnamgfiaaDoor
