/- Receive windows: the reference's taking and giving up. -/
import Derived.Test.YtidephmobajikaaDoorRW7
namespace Go.Proofs.YtidephmobajikaaDoor
open Go.RowKit
end Go.Proofs.YtidephmobajikaaDoor
