/- Part 8 of the proof: 1 texts, one behind the other. -/
import Derived.Test.YtgmbfohkpfineaaGreatDoorCards
import Derived.Test.YtgmbfohkpfineaaGreatDoorTie
import Derived.LaidMore
import Derived.Lay
import Derived.SevenTiedAt
import Derived.Stop.Joined
import Derived.Test.YtgmbfohkpfineaaGreatDoorM7
set_option maxRecDepth 100000
set_option maxHeartbeats 8000000
set_option linter.all false
set_option linter.unusedVariables false
set_option linter.unusedSimpArgs false
namespace Go.Proofs.YtgmbfohkpfineaaGreatDoor
open Go.RowKit Go.ChangeShapes Go.WideShapes Go.ChangeAt
theorem jf_FinishNet:joinedFacts Tryz.prog 5 Tryz.f5 Rows.fnExactFinishNetSpec Rows.fnExactFinishNetRow=true:=by
 unfold joinedFacts
 simp only [Bool.and_eq_true]
 repeat' refine And.intro ?_ ?_
 all_goals (as_aux_lemma=>kernel_rfl)
end Go.Proofs.YtgmbfohkpfineaaGreatDoor
