/-
  DERIVED. GIVEN WITH THE SEED: THE CARDS: each row of YtidephmobajikaaDoorRows.lean that lists a variable, with what it lists TIED to the program's text (the seventh form; the later family's looks); each row that meets fmt, with fmt's text TOLD by the authors' own Lean function (tested against real Go, not proved from fmt's source: count such statements apart). THE CARD IS WHAT COUNTS. Prove the row's statement (the work); the ties are given (YtidephmobajikaaDoorTie.lean); close each card by the builder's one call (the guide's Derived/Test/ToyasCard.lean, 'card_holds'). Laid BY PROGRAM, IN A SANDBOX (cutbox-door.mjs). By AI agents, Wed Nov 11 2026. No macro, syntax, notation, axiom, sorry.
-/
import Derived.Test.YtidephmobajikaaDoorRows
import GoSem.ClaimSeven
namespace Go.Proofs.YtidephmobajikaaDoor
namespace Rows

/-- THE TIED CARD OF 'laws.FnSendWindow'. -/
def fnSendWindowCard : Claim7 := { stood := { row := fnSendWindowRow, standIns := [], harness := (true, "f3af8eb9fb212c8f32966091a583f8693a7a4d9444a240fbbf0765e153e27e91"), looks := false }, kinds := [], alts := [], laidByText := true, laidKinds := [.data, .pinned], laidTests := true, laidLooks := .later }
def FnSendWindowCardSaid : Prop := Claim7.holds Tryd.pinned (.plain (OpenSpec.ofChange fnSendWindowSpec)) fnSendWindowCard

/-- THE TIED CARD OF 'laws.FnAnswers'. -/
def fnAnswersCard : Claim7 := { stood := { row := fnAnswersRow, standIns := [], harness := (true, "f3af8eb9fb212c8f32966091a583f8693a7a4d9444a240fbbf0765e153e27e91"), looks := false }, kinds := [], alts := [], laidByText := true, laidKinds := [.data, .pinned], laidTests := true, laidLooks := .later }
def FnAnswersCardSaid : Prop := Claim7.holds Tryd.pinned (.plain (OpenSpec.ofChange fnAnswersSpec)) fnAnswersCard

/-- THE TIED CARD OF 'laws.FnGivingUp'. -/
def fnGivingUpCard : Claim7 := { stood := { row := fnGivingUpRow, standIns := [], harness := (true, "f3af8eb9fb212c8f32966091a583f8693a7a4d9444a240fbbf0765e153e27e91"), looks := false }, kinds := [], alts := [], laidByText := true, laidKinds := [.data, .pinned], laidTests := true, laidLooks := .later }
def FnGivingUpCardSaid : Prop := Claim7.holds Tryd.pinned (.plain (OpenSpec.ofChange fnGivingUpSpec)) fnGivingUpCard

/-- THE TIED CARD OF 'laws.FnLinks'. -/
def fnLinksCard : Claim7 := { stood := { row := fnLinksRow, standIns := [], harness := (true, "f3af8eb9fb212c8f32966091a583f8693a7a4d9444a240fbbf0765e153e27e91"), looks := false }, kinds := [], alts := [], laidByText := true, laidKinds := [.data, .pinned], laidTests := true, laidLooks := .later }
def FnLinksCardSaid : Prop := Claim7.holds Tryd.pinned (.plain (OpenSpec.ofChange fnLinksSpec)) fnLinksCard

/-- THE TIED CARD OF 'laws.FnExactTickSource'. -/
def fnExactTickSourceCard : Claim7 := { stood := { row := fnExactTickSourceRow, standIns := [], harness := (true, "f3af8eb9fb212c8f32966091a583f8693a7a4d9444a240fbbf0765e153e27e91"), looks := false }, kinds := [], alts := [], laidByText := true, laidKinds := [.data, .pinned], laidTests := true, laidLooks := .later }
def FnExactTickSourceCardSaid : Prop := Claim7.holds Tryd.pinned (.plain (OpenSpec.ofChange fnExactTickSourceSpec)) fnExactTickSourceCard

/-- THE TIED CARD OF 'laws.FnLinkRuns'. -/
def fnLinkRunsCard : Claim7 := { stood := { row := fnLinkRunsRow, standIns := [], harness := (true, "f3af8eb9fb212c8f32966091a583f8693a7a4d9444a240fbbf0765e153e27e91"), looks := false }, kinds := [], alts := [], laidByText := true, laidKinds := [.data, .pinned], laidTests := true, laidLooks := .later }
def FnLinkRunsCardSaid : Prop := Claim7.holds Tryd.pinned (.plain (OpenSpec.ofChange fnLinkRunsSpec)) fnLinkRunsCard

/-- THE SECOND FORM's CARD OF 'laws.FnSendWindow'. -/
def fnSendWindowUptoCard : Claim7 := { stood := { row := fnSendWindowUptoRow, standIns := [], harness := (true, "f3af8eb9fb212c8f32966091a583f8693a7a4d9444a240fbbf0765e153e27e91"), looks := false }, kinds := [], alts := [], laidByText := true, laidKinds := [.data, .pinned], laidTests := true, laidLooks := .later }
def FnSendWindowUptoCardSaid : Prop := Claim7.holds Tryd.pinned (.plain (OpenSpec.upto fnSendWindowSpec)) fnSendWindowUptoCard

/-- THE SECOND FORM's CARD OF 'laws.FnAnswers'. -/
def fnAnswersUptoCard : Claim7 := { stood := { row := fnAnswersUptoRow, standIns := [], harness := (true, "f3af8eb9fb212c8f32966091a583f8693a7a4d9444a240fbbf0765e153e27e91"), looks := false }, kinds := [], alts := [], laidByText := true, laidKinds := [.data, .pinned], laidTests := true, laidLooks := .later }
def FnAnswersUptoCardSaid : Prop := Claim7.holds Tryd.pinned (.plain (OpenSpec.upto fnAnswersSpec)) fnAnswersUptoCard

/-- THE SECOND FORM's CARD OF 'laws.FnGivingUp'. -/
def fnGivingUpUptoCard : Claim7 := { stood := { row := fnGivingUpUptoRow, standIns := [], harness := (true, "f3af8eb9fb212c8f32966091a583f8693a7a4d9444a240fbbf0765e153e27e91"), looks := false }, kinds := [], alts := [], laidByText := true, laidKinds := [.data, .pinned], laidTests := true, laidLooks := .later }
def FnGivingUpUptoCardSaid : Prop := Claim7.holds Tryd.pinned (.plain (OpenSpec.upto fnGivingUpSpec)) fnGivingUpUptoCard

/-- THE SECOND FORM's CARD OF 'laws.FnLinks'. -/
def fnLinksUptoCard : Claim7 := { stood := { row := fnLinksUptoRow, standIns := [], harness := (true, "f3af8eb9fb212c8f32966091a583f8693a7a4d9444a240fbbf0765e153e27e91"), looks := false }, kinds := [], alts := [], laidByText := true, laidKinds := [.data, .pinned], laidTests := true, laidLooks := .later }
def FnLinksUptoCardSaid : Prop := Claim7.holds Tryd.pinned (.plain (OpenSpec.upto fnLinksSpec)) fnLinksUptoCard

/-- THE SECOND FORM's CARD OF 'laws.FnExactTickSource'. -/
def fnExactTickSourceUptoCard : Claim7 := { stood := { row := fnExactTickSourceUptoRow, standIns := [], harness := (true, "f3af8eb9fb212c8f32966091a583f8693a7a4d9444a240fbbf0765e153e27e91"), looks := false }, kinds := [], alts := [], laidByText := true, laidKinds := [.data, .pinned], laidTests := true, laidLooks := .later }
def FnExactTickSourceUptoCardSaid : Prop := Claim7.holds Tryd.pinned (.plain (OpenSpec.upto fnExactTickSourceSpec)) fnExactTickSourceUptoCard

/-- THE SECOND FORM's CARD OF 'laws.FnLinkRuns'. -/
def fnLinkRunsUptoCard : Claim7 := { stood := { row := fnLinkRunsUptoRow, standIns := [], harness := (true, "f3af8eb9fb212c8f32966091a583f8693a7a4d9444a240fbbf0765e153e27e91"), looks := false }, kinds := [], alts := [], laidByText := true, laidKinds := [.data, .pinned], laidTests := true, laidLooks := .later }
def FnLinkRunsUptoCardSaid : Prop := Claim7.holds Tryd.pinned (.plain (OpenSpec.upto fnLinkRunsSpec)) fnLinkRunsUptoCard
end Rows
end Go.Proofs.YtidephmobajikaaDoor
