/- Part 12 of the proof: 1 texts, one behind the other. -/
import Derived.Test.YtmckdnddocfodaaGreatDoorCards
import Derived.Test.YtmckdnddocfodaaGreatDoorTie
import Derived.LaidMore
import Derived.Lay
import Derived.SevenTiedAt
import Derived.Stop.Joined
import Derived.Test.YtmckdnddocfodaaGreatDoorM11
open _root_.Go.Proofs.Tryz
set_option maxRecDepth 100000
set_option maxHeartbeats 8000000
set_option linter.all false
set_option linter.unusedVariables false
set_option linter.unusedSimpArgs false
namespace Go.Proofs.YtmckdnddocfodaaGreatDoor
open Go.RowKit Go.ChangeShapes Go.WideShapes Go.ChangeAt
theorem Afa:joinedFacts prog 3 f3 Rows.fnSettlingSpec Rows.fnSettlingRow=true:=by
 unfold joinedFacts;simp only [av]
 repeat' refine And.intro ?_ ?_
 all_goals (as_aux_lemma=>kernel_rfl)
end Go.Proofs.YtmckdnddocfodaaGreatDoor
