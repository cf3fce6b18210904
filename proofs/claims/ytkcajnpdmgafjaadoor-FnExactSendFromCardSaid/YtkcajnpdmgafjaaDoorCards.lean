/-
  DERIVED. GIVEN WITH THE SEED: THE CARDS: each row of YtkcajnpdmgafjaaDoorRows.lean that lists a variable, with what it lists TIED to the program's text (the seventh form; the later family's looks); each row that meets fmt, with fmt's text TOLD by the authors' own Lean function (tested against real Go, not proved from fmt's source: count such statements apart). THE CARD IS WHAT COUNTS. Prove the row's statement (the work); the ties are given (YtkcajnpdmgafjaaDoorTie.lean); close each card by the builder's one call (the guide's Derived/Test/ToyasCard.lean, 'card_holds'). Laid BY PROGRAM, IN A SANDBOX (cutbox-door.mjs). By AI agents, Wed Nov 11 2026. No macro, syntax, notation, axiom, sorry.
-/
import Derived.Test.YtkcajnpdmgafjaaDoorRows
import GoSem.ClaimSeven
namespace Go.Proofs.YtkcajnpdmgafjaaDoor
namespace Rows

/-- THE TIED CARD OF 'laws.FnExactSendOn'. -/
def fnExactSendOnCard : Claim7 := { stood := { row := fnExactSendOnRow, standIns := [], harness := (true, "b02e7c7c5263194cf8e1a84c7cd6927d7b03fe1d00eb2bdcfca47ac75cf2a0db"), looks := false }, kinds := [], alts := [], laidByText := true, laidKinds := [.data, .pinned], laidTests := true, laidLooks := .later }
def FnExactSendOnCardSaid : Prop := Claim7.holds Tryd.pinned (.plain (OpenSpec.ofChange fnExactSendOnSpec)) fnExactSendOnCard

/-- THE TIED CARD OF 'laws.FnExactSendAll'. -/
def fnExactSendAllCard : Claim7 := { stood := { row := fnExactSendAllRow, standIns := [], harness := (true, "b02e7c7c5263194cf8e1a84c7cd6927d7b03fe1d00eb2bdcfca47ac75cf2a0db"), looks := false }, kinds := [], alts := [], laidByText := true, laidKinds := [.data, .pinned], laidTests := true, laidLooks := .later }
def FnExactSendAllCardSaid : Prop := Claim7.holds Tryd.pinned (.plain (OpenSpec.ofChange fnExactSendAllSpec)) fnExactSendAllCard

/-- THE TIED CARD OF 'laws.FnLinks'. -/
def fnLinksCard : Claim7 := { stood := { row := fnLinksRow, standIns := [], harness := (true, "b02e7c7c5263194cf8e1a84c7cd6927d7b03fe1d00eb2bdcfca47ac75cf2a0db"), looks := false }, kinds := [], alts := [], laidByText := true, laidKinds := [.data, .pinned], laidTests := true, laidLooks := .later }
def FnLinksCardSaid : Prop := Claim7.holds Tryd.pinned (.plain (OpenSpec.ofChange fnLinksSpec)) fnLinksCard

/-- THE TIED CARD OF 'laws.FnLinkRuns'. -/
def fnLinkRunsCard : Claim7 := { stood := { row := fnLinkRunsRow, standIns := [], harness := (true, "b02e7c7c5263194cf8e1a84c7cd6927d7b03fe1d00eb2bdcfca47ac75cf2a0db"), looks := false }, kinds := [], alts := [], laidByText := true, laidKinds := [.data, .pinned], laidTests := true, laidLooks := .later }
def FnLinkRunsCardSaid : Prop := Claim7.holds Tryd.pinned (.plain (OpenSpec.ofChange fnLinkRunsSpec)) fnLinkRunsCard

/-- THE TIED CARD OF 'laws.FnExactGiveUpTo'. -/
def fnExactGiveUpToCard : Claim7 := { stood := { row := fnExactGiveUpToRow, standIns := [], harness := (true, "b02e7c7c5263194cf8e1a84c7cd6927d7b03fe1d00eb2bdcfca47ac75cf2a0db"), looks := false }, kinds := [], alts := [], laidByText := true, laidKinds := [.data, .pinned], laidTests := true, laidLooks := .later }
def FnExactGiveUpToCardSaid : Prop := Claim7.holds Tryd.pinned (.plain (OpenSpec.ofChange fnExactGiveUpToSpec)) fnExactGiveUpToCard

/-- THE TIED CARD OF 'laws.FnExactTakeItem'. -/
def fnExactTakeItemCard : Claim7 := { stood := { row := fnExactTakeItemRow, standIns := [], harness := (true, "b02e7c7c5263194cf8e1a84c7cd6927d7b03fe1d00eb2bdcfca47ac75cf2a0db"), looks := false }, kinds := [], alts := [], laidByText := true, laidKinds := [.data, .pinned], laidTests := true, laidLooks := .later }
def FnExactTakeItemCardSaid : Prop := Claim7.holds Tryd.pinned (.plain (OpenSpec.ofChange fnExactTakeItemSpec)) fnExactTakeItemCard

/-- THE TIED CARD OF 'laws.FnSendWindow'. -/
def fnSendWindowCard : Claim7 := { stood := { row := fnSendWindowRow, standIns := [], harness := (true, "b02e7c7c5263194cf8e1a84c7cd6927d7b03fe1d00eb2bdcfca47ac75cf2a0db"), looks := false }, kinds := [], alts := [], laidByText := true, laidKinds := [.data, .pinned], laidTests := true, laidLooks := .later }
def FnSendWindowCardSaid : Prop := Claim7.holds Tryd.pinned (.plain (OpenSpec.ofChange fnSendWindowSpec)) fnSendWindowCard

/-- THE TIED CARD OF 'laws.FnAnswers'. -/
def fnAnswersCard : Claim7 := { stood := { row := fnAnswersRow, standIns := [], harness := (true, "b02e7c7c5263194cf8e1a84c7cd6927d7b03fe1d00eb2bdcfca47ac75cf2a0db"), looks := false }, kinds := [], alts := [], laidByText := true, laidKinds := [.data, .pinned], laidTests := true, laidLooks := .later }
def FnAnswersCardSaid : Prop := Claim7.holds Tryd.pinned (.plain (OpenSpec.ofChange fnAnswersSpec)) fnAnswersCard

/-- THE TIED CARD OF 'laws.FnGivingUp'. -/
def fnGivingUpCard : Claim7 := { stood := { row := fnGivingUpRow, standIns := [], harness := (true, "b02e7c7c5263194cf8e1a84c7cd6927d7b03fe1d00eb2bdcfca47ac75cf2a0db"), looks := false }, kinds := [], alts := [], laidByText := true, laidKinds := [.data, .pinned], laidTests := true, laidLooks := .later }
def FnGivingUpCardSaid : Prop := Claim7.holds Tryd.pinned (.plain (OpenSpec.ofChange fnGivingUpSpec)) fnGivingUpCard

/-- THE TIED CARD OF 'laws.FnExactTrimSource'. -/
def fnExactTrimSourceCard : Claim7 := { stood := { row := fnExactTrimSourceRow, standIns := [], harness := (true, "b02e7c7c5263194cf8e1a84c7cd6927d7b03fe1d00eb2bdcfca47ac75cf2a0db"), looks := false }, kinds := [], alts := [], laidByText := true, laidKinds := [.data, .pinned], laidTests := true, laidLooks := .later }
def FnExactTrimSourceCardSaid : Prop := Claim7.holds Tryd.pinned (.plain (OpenSpec.ofChange fnExactTrimSourceSpec)) fnExactTrimSourceCard

/-- THE TIED CARD OF 'laws.FnExactSendFrom'. -/
def fnExactSendFromCard : Claim7 := { stood := { row := fnExactSendFromRow, standIns := [], harness := (true, "b02e7c7c5263194cf8e1a84c7cd6927d7b03fe1d00eb2bdcfca47ac75cf2a0db"), looks := false }, kinds := [], alts := [], laidByText := true, laidKinds := [.data, .pinned], laidTests := true, laidLooks := .later }
def FnExactSendFromCardSaid : Prop := Claim7.holds Tryd.pinned (.plain (OpenSpec.ofChange fnExactSendFromSpec)) fnExactSendFromCard

/-- THE SECOND FORM's CARD OF 'laws.FnExactSendOn'. -/
def fnExactSendOnUptoCard : Claim7 := { stood := { row := fnExactSendOnUptoRow, standIns := [], harness := (true, "b02e7c7c5263194cf8e1a84c7cd6927d7b03fe1d00eb2bdcfca47ac75cf2a0db"), looks := false }, kinds := [], alts := [], laidByText := true, laidKinds := [.data, .pinned], laidTests := true, laidLooks := .later }
def FnExactSendOnUptoCardSaid : Prop := Claim7.holds Tryd.pinned (.plain (OpenSpec.upto fnExactSendOnSpec)) fnExactSendOnUptoCard

/-- THE SECOND FORM's CARD OF 'laws.FnExactSendAll'. -/
def fnExactSendAllUptoCard : Claim7 := { stood := { row := fnExactSendAllUptoRow, standIns := [], harness := (true, "b02e7c7c5263194cf8e1a84c7cd6927d7b03fe1d00eb2bdcfca47ac75cf2a0db"), looks := false }, kinds := [], alts := [], laidByText := true, laidKinds := [.data, .pinned], laidTests := true, laidLooks := .later }
def FnExactSendAllUptoCardSaid : Prop := Claim7.holds Tryd.pinned (.plain (OpenSpec.upto fnExactSendAllSpec)) fnExactSendAllUptoCard

/-- THE SECOND FORM's CARD OF 'laws.FnLinks'. -/
def fnLinksUptoCard : Claim7 := { stood := { row := fnLinksUptoRow, standIns := [], harness := (true, "b02e7c7c5263194cf8e1a84c7cd6927d7b03fe1d00eb2bdcfca47ac75cf2a0db"), looks := false }, kinds := [], alts := [], laidByText := true, laidKinds := [.data, .pinned], laidTests := true, laidLooks := .later }
def FnLinksUptoCardSaid : Prop := Claim7.holds Tryd.pinned (.plain (OpenSpec.upto fnLinksSpec)) fnLinksUptoCard

/-- THE SECOND FORM's CARD OF 'laws.FnLinkRuns'. -/
def fnLinkRunsUptoCard : Claim7 := { stood := { row := fnLinkRunsUptoRow, standIns := [], harness := (true, "b02e7c7c5263194cf8e1a84c7cd6927d7b03fe1d00eb2bdcfca47ac75cf2a0db"), looks := false }, kinds := [], alts := [], laidByText := true, laidKinds := [.data, .pinned], laidTests := true, laidLooks := .later }
def FnLinkRunsUptoCardSaid : Prop := Claim7.holds Tryd.pinned (.plain (OpenSpec.upto fnLinkRunsSpec)) fnLinkRunsUptoCard

/-- THE SECOND FORM's CARD OF 'laws.FnExactGiveUpTo'. -/
def fnExactGiveUpToUptoCard : Claim7 := { stood := { row := fnExactGiveUpToUptoRow, standIns := [], harness := (true, "b02e7c7c5263194cf8e1a84c7cd6927d7b03fe1d00eb2bdcfca47ac75cf2a0db"), looks := false }, kinds := [], alts := [], laidByText := true, laidKinds := [.data, .pinned], laidTests := true, laidLooks := .later }
def FnExactGiveUpToUptoCardSaid : Prop := Claim7.holds Tryd.pinned (.plain (OpenSpec.upto fnExactGiveUpToSpec)) fnExactGiveUpToUptoCard

/-- THE SECOND FORM's CARD OF 'laws.FnExactTakeItem'. -/
def fnExactTakeItemUptoCard : Claim7 := { stood := { row := fnExactTakeItemUptoRow, standIns := [], harness := (true, "b02e7c7c5263194cf8e1a84c7cd6927d7b03fe1d00eb2bdcfca47ac75cf2a0db"), looks := false }, kinds := [], alts := [], laidByText := true, laidKinds := [.data, .pinned], laidTests := true, laidLooks := .later }
def FnExactTakeItemUptoCardSaid : Prop := Claim7.holds Tryd.pinned (.plain (OpenSpec.upto fnExactTakeItemSpec)) fnExactTakeItemUptoCard

/-- THE SECOND FORM's CARD OF 'laws.FnSendWindow'. -/
def fnSendWindowUptoCard : Claim7 := { stood := { row := fnSendWindowUptoRow, standIns := [], harness := (true, "b02e7c7c5263194cf8e1a84c7cd6927d7b03fe1d00eb2bdcfca47ac75cf2a0db"), looks := false }, kinds := [], alts := [], laidByText := true, laidKinds := [.data, .pinned], laidTests := true, laidLooks := .later }
def FnSendWindowUptoCardSaid : Prop := Claim7.holds Tryd.pinned (.plain (OpenSpec.upto fnSendWindowSpec)) fnSendWindowUptoCard

/-- THE SECOND FORM's CARD OF 'laws.FnAnswers'. -/
def fnAnswersUptoCard : Claim7 := { stood := { row := fnAnswersUptoRow, standIns := [], harness := (true, "b02e7c7c5263194cf8e1a84c7cd6927d7b03fe1d00eb2bdcfca47ac75cf2a0db"), looks := false }, kinds := [], alts := [], laidByText := true, laidKinds := [.data, .pinned], laidTests := true, laidLooks := .later }
def FnAnswersUptoCardSaid : Prop := Claim7.holds Tryd.pinned (.plain (OpenSpec.upto fnAnswersSpec)) fnAnswersUptoCard

/-- THE SECOND FORM's CARD OF 'laws.FnGivingUp'. -/
def fnGivingUpUptoCard : Claim7 := { stood := { row := fnGivingUpUptoRow, standIns := [], harness := (true, "b02e7c7c5263194cf8e1a84c7cd6927d7b03fe1d00eb2bdcfca47ac75cf2a0db"), looks := false }, kinds := [], alts := [], laidByText := true, laidKinds := [.data, .pinned], laidTests := true, laidLooks := .later }
def FnGivingUpUptoCardSaid : Prop := Claim7.holds Tryd.pinned (.plain (OpenSpec.upto fnGivingUpSpec)) fnGivingUpUptoCard

/-- THE SECOND FORM's CARD OF 'laws.FnExactTrimSource'. -/
def fnExactTrimSourceUptoCard : Claim7 := { stood := { row := fnExactTrimSourceUptoRow, standIns := [], harness := (true, "b02e7c7c5263194cf8e1a84c7cd6927d7b03fe1d00eb2bdcfca47ac75cf2a0db"), looks := false }, kinds := [], alts := [], laidByText := true, laidKinds := [.data, .pinned], laidTests := true, laidLooks := .later }
def FnExactTrimSourceUptoCardSaid : Prop := Claim7.holds Tryd.pinned (.plain (OpenSpec.upto fnExactTrimSourceSpec)) fnExactTrimSourceUptoCard

/-- THE SECOND FORM's CARD OF 'laws.FnExactSendFrom'. -/
def fnExactSendFromUptoCard : Claim7 := { stood := { row := fnExactSendFromUptoRow, standIns := [], harness := (true, "b02e7c7c5263194cf8e1a84c7cd6927d7b03fe1d00eb2bdcfca47ac75cf2a0db"), looks := false }, kinds := [], alts := [], laidByText := true, laidKinds := [.data, .pinned], laidTests := true, laidLooks := .later }
def FnExactSendFromUptoCardSaid : Prop := Claim7.holds Tryd.pinned (.plain (OpenSpec.upto fnExactSendFromSpec)) fnExactSendFromUptoCard
end Rows
end Go.Proofs.YtkcajnpdmgafjaaDoor
