/- TakeFrom: a bound on the marks of its result. -/
import Derived.Test.YtnbccfnnamgfiaaDoorLinkFirst
namespace Go.Proofs.YtnbccfnnamgfiaaDoor
open Go.RowKit
theorem resTakeFrom_cv (x0 : Link) (_h0 : wtLink x0 ≤ 1048576) : cvLink ((resTakeFrom x0).1) ≤ 4294967296 := by
  unfold resTakeFrom
  split
  · rename_i h
    unfold okTakeFrom at h
    simp only [Bool.and_eq_true] at h
    obtain ⟨⟨⟨⟨h1, -⟩, -⟩, -⟩, -⟩ := goodLink_iff.1 h.1
    unfold cvLink; rw [cntL_str]; simp only [List.length_drop]; omega
  · unfold cvLink; rw [cntL_str]; simp
end Go.Proofs.YtnbccfnnamgfiaaDoor
