/- Part 13 of the proof: 1 texts, one behind the other. -/
import GoSem.ClaimGoes
import Derived.SevenTiedAt
import Derived.Test.YtkoldibamfjghaaGreatDoorProg
import Derived.Test.YtkoldibamfjghaaGreatDoorM12
open _root_.Go.Proofs.Tryz
set_option maxRecDepth 100000
set_option maxHeartbeats 8000000
set_option linter.all false
set_option linter.unusedVariables false
set_option linter.unusedSimpArgs false
namespace Go.Proofs.YtkoldibamfjghaaGreatDoor

theorem Acc {P:Program} (h:P.funcs.any Func.goes=false) (f:FuncId):P.goes f=false:=by
 have h2:∀g:Nat,(P.funcs[g]?).any Func.goes=false:=fun g=>by
  cases e:P.funcs[g]? with
  | none=>rfl
  | some x =>
   obtain ⟨hg,rfl⟩:=bK.1 e;have:=(Array.any_eq_false.1 h) g hg;exact EX
 unfold Program.goes;rw [h,ci,Bool.or_false]
 first
 | (rw [cD];intro g _;rw [h2];decide)
 | (rw [Array.any_eq_false];intro g _;rw [h2];decide)
theorem Am0 (c:OpenClaim) {P:Program} (h:P.funcs.any Func.goes=false):false=c.goesBy P:=by
 have hf:∀n,P.goesFrom n=false:=fun n=>by
  unfold Program.goesFrom;cases P.funcNamed n with
  | none=>rfl
  | some f=>exact Acc h f
 unfold OpenClaim.goesBy Program.goesAt;rw [hf,fm];cases c.start with
 | entering=>rfl
 | _ =>
  symm
  first
  | (rw [cD];intro g _;rw [Acc h];decide)
  | (simp only [];rw [cD];intro g _;rw [Acc h];decide)
end Go.Proofs.YtkoldibamfjghaaGreatDoor
