/- Part 6 of the proof: 1 texts, one behind the other. -/
import Derived.Test.YtcmighgaiacgoaaGreatDoorM5
open _root_.Go.Proofs.Tryz
set_option maxRecDepth 100000
set_option maxHeartbeats 8000000
set_option linter.all false
set_option linter.unusedVariables false
set_option linter.unusedSimpArgs false
namespace Go.Proofs.YtcmighgaiacgoaaGreatDoor
open Go.RowKit
structure NwN where
 g:Nat
 a:Option Addr
 c:Nat
 F:List Nat
 g1:Nat
 g2:Nat
 g3:Nat
 g4:Nat
end Go.Proofs.YtcmighgaiacgoaaGreatDoor
