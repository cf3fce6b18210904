/- Part 8 of the proof: 1 texts, one behind the other. -/
import Derived.Test.YtcmighgaiacgoaaGreatDoorM7
open _root_.Go.Proofs.Tryz
set_option maxRecDepth 100000
set_option maxHeartbeats 8000000
set_option linter.all false
set_option linter.unusedVariables false
set_option linter.unusedSimpArgs false
namespace Go.Proofs.YtcmighgaiacgoaaGreatDoor

open Go.RowKit
end Go.Proofs.YtcmighgaiacgoaaGreatDoor
