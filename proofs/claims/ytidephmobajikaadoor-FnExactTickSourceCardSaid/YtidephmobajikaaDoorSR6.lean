/- Sources: TrimSource of the reference. -/
import Derived.Test.YtidephmobajikaaDoorSR5
namespace Go.Proofs.YtidephmobajikaaDoor
open Go.RowKit
end Go.Proofs.YtidephmobajikaaDoor
