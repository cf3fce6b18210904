/-
  DERIVED. GIVEN WITH THE SEED: THE CARDS: each row of YtgogcgkocjpgoaaDoorRows.lean that lists a variable, with what it lists TIED to the program's text (the seventh form; the later family's looks); each row that meets fmt, with fmt's text TOLD by the authors' own Lean function (tested against real Go, not proved from fmt's source: count such statements apart). THE CARD IS WHAT COUNTS. Prove the row's statement (the work); the ties are given (YtgogcgkocjpgoaaDoorTie.lean); close each card by the builder's one call (the guide's Derived/Test/ToyasCard.lean, 'card_holds'). Laid BY PROGRAM, IN A SANDBOX (cutbox-door.mjs). By AI agents, Wed Nov 11 2026. No macro, syntax, notation, axiom, sorry.
-/
import Derived.Test.YtgogcgkocjpgoaaDoorRows
import GoSem.ClaimSeven
namespace Go.Proofs.YtgogcgkocjpgoaaDoor
namespace Rows

/-- THE TIED CARD OF 'laws.FnExactParseDelivery'. -/
def fnExactParseDeliveryCard : Claim7 := { stood := { row := fnExactParseDeliveryRow, standIns := [], harness := (true, "0df821e5a2337eacdc8da1534397fb12ea118cbe2321200ae70a7abe33b64415"), looks := true }, kinds := [], alts := [], laidByText := true, laidKinds := [.data, .data, .data, .data, .sentinel, .sentinel, .pinned], laidTests := true, laidLooks := .later }
def FnExactParseDeliveryCardSaid : Prop := Claim7.holds Tryd.pinned (.plain (OpenSpec.ofChange fnExactParseDeliverySpec)) fnExactParseDeliveryCard

/-- THE TIED CARD OF 'laws.FnExactParseReport'. -/
def fnExactParseReportCard : Claim7 := { stood := { row := fnExactParseReportRow, standIns := [], harness := (true, "0df821e5a2337eacdc8da1534397fb12ea118cbe2321200ae70a7abe33b64415"), looks := true }, kinds := [], alts := [], laidByText := true, laidKinds := [.data, .data, .data, .data, .sentinel, .sentinel, .pinned], laidTests := true, laidLooks := .later }
def FnExactParseReportCardSaid : Prop := Claim7.holds Tryd.pinned (.plain (OpenSpec.ofChange fnExactParseReportSpec)) fnExactParseReportCard

/-- THE SECOND FORM's CARD OF 'laws.FnExactParseDelivery'. -/
def fnExactParseDeliveryUptoCard : Claim7 := { stood := { row := fnExactParseDeliveryUptoRow, standIns := [], harness := (true, "0df821e5a2337eacdc8da1534397fb12ea118cbe2321200ae70a7abe33b64415"), looks := true }, kinds := [], alts := [], laidByText := true, laidKinds := [.data, .data, .data, .data, .sentinel, .sentinel, .pinned], laidTests := true, laidLooks := .later }
def FnExactParseDeliveryUptoCardSaid : Prop := Claim7.holds Tryd.pinned (.plain (OpenSpec.upto fnExactParseDeliverySpec)) fnExactParseDeliveryUptoCard

/-- THE SECOND FORM's CARD OF 'laws.FnExactParseReport'. -/
def fnExactParseReportUptoCard : Claim7 := { stood := { row := fnExactParseReportUptoRow, standIns := [], harness := (true, "0df821e5a2337eacdc8da1534397fb12ea118cbe2321200ae70a7abe33b64415"), looks := true }, kinds := [], alts := [], laidByText := true, laidKinds := [.data, .data, .data, .data, .sentinel, .sentinel, .pinned], laidTests := true, laidLooks := .later }
def FnExactParseReportUptoCardSaid : Prop := Claim7.holds Tryd.pinned (.plain (OpenSpec.upto fnExactParseReportSpec)) fnExactParseReportUptoCard
end Rows
end Go.Proofs.YtgogcgkocjpgoaaDoor
