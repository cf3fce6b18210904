/-
  DERIVED. GIVEN WITH THE SEED: THE CARDS: each row of YtidephmobajikaaGreatDoorRows.lean that lists a variable, with what it lists TIED to the program's text (the seventh form; the later family's looks); each row that meets fmt, with fmt's text TOLD by the authors' own Lean function (tested against real Go, not proved from fmt's source: count such statements apart). THE CARD IS WHAT COUNTS. Prove the row's statement (the work); the ties are given (YtidephmobajikaaGreatDoorTie.lean); close each card by the builder's one call (the guide's Derived/Test/ToyasCard.lean, 'card_holds'). Laid BY PROGRAM, IN A SANDBOX (cutbox-door.mjs). By AI agents, Wed Nov 11 2026. No macro, syntax, notation, axiom, sorry.
-/
import Derived.Test.YtidephmobajikaaGreatDoorRows
import GoSem.ClaimSeven
namespace Go.Proofs.YtidephmobajikaaGreatDoor
namespace Rows

/-- THE TIED CARD OF 'laws.FnReceiveWindow'. -/
def fnReceiveWindowCard : Claim7 := { stood := { row := fnReceiveWindowRow, standIns := [], harness := (true, "9f2a21af212e3896f7d69f12655dff32132fd743e495ca4e75018987b3a97173"), looks := true }, kinds := [], alts := [], laidByText := true, laidKinds := [.data, .data, .data, .data, .sentinel, .sentinel, .pinned], laidTests := true, laidLooks := .later }
def FnReceiveWindowCardSaid : Prop := Claim7.holds Tryz.pinned (.plain (OpenSpec.ofChange fnReceiveWindowSpec)) fnReceiveWindowCard

/-- THE TIED CARD OF 'laws.FnHolds'. -/
def fnHoldsCard : Claim7 := { stood := { row := fnHoldsRow, standIns := [], harness := (true, "9f2a21af212e3896f7d69f12655dff32132fd743e495ca4e75018987b3a97173"), looks := true }, kinds := [], alts := [], laidByText := true, laidKinds := [.data, .pinned], laidTests := true, laidLooks := .later }
def FnHoldsCardSaid : Prop := Claim7.holds Tryz.pinned (.plain (OpenSpec.ofChange fnHoldsSpec)) fnHoldsCard

/-- THE TIED CARD OF 'laws.FnSource'. -/
def fnSourceCard : Claim7 := { stood := { row := fnSourceRow, standIns := [], harness := (true, "9f2a21af212e3896f7d69f12655dff32132fd743e495ca4e75018987b3a97173"), looks := true }, kinds := [], alts := [], laidByText := true, laidKinds := [.data, .pinned], laidTests := true, laidLooks := .later }
def FnSourceCardSaid : Prop := Claim7.holds Tryz.pinned (.plain (OpenSpec.ofChange fnSourceSpec)) fnSourceCard

/-- THE TIED CARD OF 'laws.FnExactRequestTo'. -/
def fnExactRequestToCard : Claim7 := { stood := { row := fnExactRequestToRow, standIns := [], harness := (true, "9f2a21af212e3896f7d69f12655dff32132fd743e495ca4e75018987b3a97173"), looks := true }, kinds := [], alts := [], laidByText := true, laidKinds := [.data, .pinned], laidTests := true, laidLooks := .later }
def FnExactRequestToCardSaid : Prop := Claim7.holds Tryz.pinned (.plain (OpenSpec.ofChange fnExactRequestToSpec)) fnExactRequestToCard

/-- THE SECOND FORM's CARD OF 'laws.FnReceiveWindow'. -/
def fnReceiveWindowUptoCard : Claim7 := { stood := { row := fnReceiveWindowUptoRow, standIns := [], harness := (true, "9f2a21af212e3896f7d69f12655dff32132fd743e495ca4e75018987b3a97173"), looks := true }, kinds := [], alts := [], laidByText := true, laidKinds := [.data, .data, .data, .data, .sentinel, .sentinel, .pinned], laidTests := true, laidLooks := .later }
def FnReceiveWindowUptoCardSaid : Prop := Claim7.holds Tryz.pinned (.plain (OpenSpec.upto fnReceiveWindowSpec)) fnReceiveWindowUptoCard

/-- THE SECOND FORM's CARD OF 'laws.FnHolds'. -/
def fnHoldsUptoCard : Claim7 := { stood := { row := fnHoldsUptoRow, standIns := [], harness := (true, "9f2a21af212e3896f7d69f12655dff32132fd743e495ca4e75018987b3a97173"), looks := true }, kinds := [], alts := [], laidByText := true, laidKinds := [.data, .pinned], laidTests := true, laidLooks := .later }
def FnHoldsUptoCardSaid : Prop := Claim7.holds Tryz.pinned (.plain (OpenSpec.upto fnHoldsSpec)) fnHoldsUptoCard

/-- THE SECOND FORM's CARD OF 'laws.FnSource'. -/
def fnSourceUptoCard : Claim7 := { stood := { row := fnSourceUptoRow, standIns := [], harness := (true, "9f2a21af212e3896f7d69f12655dff32132fd743e495ca4e75018987b3a97173"), looks := true }, kinds := [], alts := [], laidByText := true, laidKinds := [.data, .pinned], laidTests := true, laidLooks := .later }
def FnSourceUptoCardSaid : Prop := Claim7.holds Tryz.pinned (.plain (OpenSpec.upto fnSourceSpec)) fnSourceUptoCard

/-- THE SECOND FORM's CARD OF 'laws.FnExactRequestTo'. -/
def fnExactRequestToUptoCard : Claim7 := { stood := { row := fnExactRequestToUptoRow, standIns := [], harness := (true, "9f2a21af212e3896f7d69f12655dff32132fd743e495ca4e75018987b3a97173"), looks := true }, kinds := [], alts := [], laidByText := true, laidKinds := [.data, .pinned], laidTests := true, laidLooks := .later }
def FnExactRequestToUptoCardSaid : Prop := Claim7.holds Tryz.pinned (.plain (OpenSpec.upto fnExactRequestToSpec)) fnExactRequestToUptoCard
end Rows
end Go.Proofs.YtidephmobajikaaGreatDoor
