/- The law FnExactDrainNet: the walk of the law itself out of the contracts of the two functions. No condition beyond the form's own reach. Written by wip/genlaw.py. -/
import Derived.Test.YtgmbfohkpfineaaGreatDoorCards
import Derived.Test.YtgmbfohkpfineaaGreatDoorTie
import Derived.LaidMore
import Derived.Lay
import Derived.SevenTiedAt
import Derived.Stop.Joined
import Derived.Test.YtgmbfohkpfineaaGreatDoorM8
namespace Go.Proofs.YtgmbfohkpfineaaGreatDoor
open Go.RowKit Go.ChangeShapes Go.WideShapes Go.ChangeAt
theorem holds_DrainNet : Rows.FnExactDrainNetSaid :=
  OpenClaim.holds_of_wide 4 Tryz.f4 rfl rfl rfl rfl rfl rfl rfl ⟨rfl, rfl, rfl, rfl, rfl⟩ rfl rfl rfl rfl rfl (by kernel_rfl) Tryz.func4 jf_DrainNet
    (of_decide_eq_true (by kernel_rfl)) (by unfold Func.isWrapper; first | (rw [if_pos (by decide +kernel)]; kernel_rfl) | (rw [if_neg (by decide +kernel)]; exact ⟨rfl, rfl⟩))
    (fun os started H enc _ => lifted_DrainNet os started H enc)
/-- no parameter wants a stand-in; the looks are off -/
theorem plain_DrainNet (f : FuncId) (fn : Func) (hf : Tryz.pinned.checked.prog.funcNamed "loop.example/g00840/laws.FnExactDrainNet" = some f) (hfn : Tryz.pinned.checked.prog.funcs[f]? = some fn) :
    false = Tryz.pinned.checked.prog.looks [] ∧ ∀ (j : Nat) t, fn.params[j]? = some t → Tryz.pinned.checked.prog.wantsStandIn t = false := by
  obtain rfl : f = 4 := Option.some.inj ((show Tryz.prog.funcNamed "loop.example/g00840/laws.FnExactDrainNet" = some 4 by kernel_rfl).symm.trans hf) |>.symm
  obtain rfl : fn = Tryz.f4 := (Option.some.inj (Tryz.func4.symm.trans hfn)).symm
  refine ⟨by kernel_rfl, fun j t ht => ?_⟩
  rw [Tryz.params4] at ht
  have hm : t ∈ [35] := by simpa using Array.mem_of_getElem? ht
  have hall : ([35].all fun u => !Tryz.prog.wantsStandIn u) = true := by kernel_rfl
  exact (show Tryz.prog.wantsStandIn t = false by simpa using List.all_eq_true.1 hall t hm)
theorem card_DrainNet : Rows.FnExactDrainNetCardSaid :=
  Claim7.holds_tied_plain_at .later [] _ _ _ _ holds_DrainNet (fun _ h => by cases h) (by kernel_rfl) (fun _ h => by cases h) fnExactDrainNet_row_tie rfl ⟨rfl, rfl⟩ (by kernel_rfl) rfl plain_DrainNet (by kernel_rfl)
end Go.Proofs.YtgmbfohkpfineaaGreatDoor
