/- DropFrom: a bound on the marks of its result. -/
import Derived.Test.YtnbccfnnamgfiaaDoorLinkTake
namespace Go.Proofs.YtnbccfnnamgfiaaDoor
open Go.RowKit
theorem resDropFrom_cv (x0 : Link) (x1 : Int) (_h0 : wtLink x0 ≤ 1048576) : cvLink ((resDropFrom x0 x1).1) ≤ 4294967296 := by
  unfold resDropFrom
  split
  · rename_i h
    unfold okDropFrom at h
    simp only [Bool.and_eq_true] at h
    obtain ⟨⟨⟨⟨h1, -⟩, -⟩, -⟩, -⟩ := goodLink_iff.1 h.1
    unfold cvLink; rw [cntL_str]; simp; omega
  · unfold cvLink; rw [cntL_str]; simp
end Go.Proofs.YtnbccfnnamgfiaaDoor
