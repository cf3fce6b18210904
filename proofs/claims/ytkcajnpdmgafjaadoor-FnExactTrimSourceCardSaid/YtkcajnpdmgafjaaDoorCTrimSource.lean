/- TrimSource: a bound on the marks of its result. -/
import Derived.Test.YtkcajnpdmgafjaaDoorSRcv
namespace Go.Proofs.YtkcajnpdmgafjaaDoor
open Go.RowKit
theorem resTrimSource_cv (x0 : Source) (x1 : Int) (_h0 : wtSource x0 ≤ 1048576) : cvSource ((resTrimSource x0 x1).1) ≤ 4294967296 := by
  unfold resTrimSource
  split
  · rename_i h
    unfold okTrimSource at h
    simp only [Bool.and_eq_true] at h
    have g := goodS_of h.1
    have hl := g.l
    have hm := g.m
    refine cvSrc_le _ ?_ ?_
    · show (resDropItems x0.window x1).1.items.length ≤ _
      unfold resDropItems
      split
      · simp only [List.length_drop]; omega
      · simp
    · show (keepH _ x0.holds).length ≤ _
      have := List.length_filter_le (fun h : Hold => heldB (resDropItems x0.window x1).1 h.number) x0.holds
      unfold keepH
      omega
  · exact cvSrc_le _ (by decide) (by decide)
end Go.Proofs.YtkcajnpdmgafjaaDoor
