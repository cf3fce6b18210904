/- Part 14 of the proof: 1 texts, one behind the other. -/
import Derived.Test.YtkoldibamfjghaaGreatDoorCards
import Derived.Test.YtkoldibamfjghaaGreatDoorTie
import Derived.LaidMore
import Derived.Lay
import Derived.SevenTiedAt
import Derived.Stop.Joined
import Derived.Test.YtkoldibamfjghaaGreatDoorM13
open _root_.Go.Proofs.Tryz
set_option maxRecDepth 100000
set_option maxHeartbeats 8000000
set_option linter.all false
set_option linter.unusedVariables false
set_option linter.unusedSimpArgs false
namespace Go.Proofs.YtkoldibamfjghaaGreatDoor
open Go.RowKit Go.ChangeShapes Go.WideShapes Go.ChangeAt
theorem Am8:joinedFacts prog 3 f3 Rows.fnScriptSpec Rows.fnScriptRow=true:=by
 unfold joinedFacts;simp only [aw]
 repeat' refine And.intro ?_ ?_
 all_goals (as_aux_lemma=>kernel_rfl)
end Go.Proofs.YtkoldibamfjghaaGreatDoor
