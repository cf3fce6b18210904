/- The law FnExactFinishNet: the walk of the law itself out of the contracts of the two functions. No condition beyond the form's own reach. Written by wip/genlaw.py. -/
import Derived.Test.YtgmbfohkpfineaaGreatDoorCards
import Derived.Test.YtgmbfohkpfineaaGreatDoorTie
import Derived.LaidMore
import Derived.Lay
import Derived.SevenTiedAt
import Derived.Stop.Joined
import Derived.Test.YtgmbfohkpfineaaGreatDoorM8
namespace Go.Proofs.YtgmbfohkpfineaaGreatDoor
open Go.RowKit Go.ChangeShapes Go.WideShapes Go.ChangeAt
theorem holds_FinishNet : Rows.FnExactFinishNetSaid :=
  OpenClaim.holds_of_wide 5 Tryz.f5 rfl rfl rfl rfl rfl rfl rfl ⟨rfl, rfl, rfl, rfl, rfl⟩ rfl rfl rfl rfl rfl (by kernel_rfl) Tryz.func5 jf_FinishNet
    (of_decide_eq_true (by kernel_rfl)) (by unfold Func.isWrapper; first | (rw [if_pos (by decide +kernel)]; kernel_rfl) | (rw [if_neg (by decide +kernel)]; exact ⟨rfl, rfl⟩))
    (fun os started H enc _ => lifted_FinishNet os started H enc)
/-- no parameter wants a stand-in; the looks are off -/
theorem plain_FinishNet (f : FuncId) (fn : Func) (hf : Tryz.pinned.checked.prog.funcNamed "loop.example/g00840/laws.FnExactFinishNet" = some f) (hfn : Tryz.pinned.checked.prog.funcs[f]? = some fn) :
    false = Tryz.pinned.checked.prog.looks [] ∧ ∀ (j : Nat) t, fn.params[j]? = some t → Tryz.pinned.checked.prog.wantsStandIn t = false := by
  obtain rfl : f = 5 := Option.some.inj ((show Tryz.prog.funcNamed "loop.example/g00840/laws.FnExactFinishNet" = some 5 by kernel_rfl).symm.trans hf) |>.symm
  obtain rfl : fn = Tryz.f5 := (Option.some.inj (Tryz.func5.symm.trans hfn)).symm
  refine ⟨by kernel_rfl, fun j t ht => ?_⟩
  rw [Tryz.params5] at ht
  have hm : t ∈ [35, 3] := by simpa using Array.mem_of_getElem? ht
  have hall : ([35, 3].all fun u => !Tryz.prog.wantsStandIn u) = true := by kernel_rfl
  exact (show Tryz.prog.wantsStandIn t = false by simpa using List.all_eq_true.1 hall t hm)
theorem card_FinishNet : Rows.FnExactFinishNetCardSaid :=
  Claim7.holds_tied_plain_at .later [] _ _ _ _ holds_FinishNet (fun _ h => by cases h) (by kernel_rfl) (fun _ h => by cases h) fnExactFinishNet_row_tie rfl ⟨rfl, rfl⟩ (by kernel_rfl) rfl plain_FinishNet (by kernel_rfl)
end Go.Proofs.YtgmbfohkpfineaaGreatDoor
