/- The law FnExactRunScript: the walk of the law itself out of the contracts of the two functions. No condition beyond the form's own reach. Written by wip/genlaw.py. -/
import Derived.Test.YtcmighgaiacgoaaGreatDoorCards
import Derived.Test.YtcmighgaiacgoaaGreatDoorTie
import Derived.LaidMore
import Derived.Lay
import Derived.SevenTiedAt
import Derived.Stop.Joined
import Derived.Test.YtcmighgaiacgoaaGreatDoorM12
namespace Go.Proofs.YtcmighgaiacgoaaGreatDoor
open Go.RowKit Go.ChangeShapes Go.WideShapes Go.ChangeAt
theorem Af5 : Rows.FnExactRunScriptSaid :=
  OpenClaim.holds_of_wide 3 Tryz.f3 rfl rfl rfl rfl rfl rfl rfl ⟨rfl, rfl, rfl, rfl, rfl⟩ rfl rfl rfl rfl rfl (by kernel_rfl) Tryz.func3 Am5
    (of_decide_eq_true (by kernel_rfl)) (by unfold Func.isWrapper; first | (rw [if_pos (by decide +kernel)]; kernel_rfl) | (rw [if_neg (by decide +kernel)]; exact ⟨rfl, rfl⟩))
    (fun os Bd H enc _ => Ad5 os Bd H enc)
/-- no parameter wants a stand-in; the looks are off -/
theorem Af8 (f : FuncId) (fn : Func) (hf : Tryz.pinned.checked.prog.funcNamed "loop.example/g00840/laws.FnExactRunScript" = some f) (hfn : Tryz.pinned.checked.prog.funcs[f]? = some fn) :
    true = Tryz.pinned.checked.prog.looks [] ∧ ∀ (j : Nat) t, fn.params[j]? = some t → Tryz.pinned.checked.prog.wantsStandIn t = false := by
  obtain rfl : f = 3 := Option.some.inj ((show Tryz.prog.funcNamed "loop.example/g00840/laws.FnExactRunScript" = some 3 by kernel_rfl).symm.trans hf) |>.symm
  obtain rfl : fn = Tryz.f3 := (Option.some.inj (Tryz.func3.symm.trans hfn)).symm
  refine ⟨by kernel_rfl, fun j t ht => ?_⟩
  rw [Tryz.params3] at ht
  have hm : t ∈ [39, 9] := by simpa using Array.mem_of_getElem? ht
  have hall : ([39, 9].all fun u => !Tryz.prog.wantsStandIn u) = true := by kernel_rfl
  exact (show Tryz.prog.wantsStandIn t = false by simpa using List.all_eq_true.1 hall t hm)
theorem card_RunScript : Rows.FnExactRunScriptCardSaid :=
  Claim7.holds_tied_plain_at .later [] _ _ _ _ Af5 (fun _ h => by cases h) (by kernel_rfl) (fun _ h => by cases h) fnExactRunScript_row_tie rfl ⟨rfl, rfl⟩ (by kernel_rfl) rfl Af8 (Apn _ (by kernel_rfl))
end Go.Proofs.YtcmighgaiacgoaaGreatDoor
