/- SendFrom: a bound on the marks of its result. -/
import Derived.Test.YtkcajnpdmgafjaaDoorSF2
import Derived.Test.YtkcajnpdmgafjaaDoorSRcv
namespace Go.Proofs.YtkcajnpdmgafjaaDoor
open Go.RowKit
theorem resSendFrom_cv (x0 : Source) (x1 : ByteArray) (_h0 : wtSource x0 ≤ 1048576) (_h1 : x1.size ≤ 1048576) : cvSource ((resSendFrom x0 x1).1) ≤ 4294967296 := by
  unfold resSendFrom
  split
  · rename_i h
    unfold okSendFrom at h
    simp only [Bool.and_eq_true] at h
    have g := goodS_of h.1
    have hl := g.l
    have hm := g.m
    refine cvSrc_le _ ?_ ?_
    · show ((roomed x0.window).items ++ [x1]).length ≤ _
      have : (roomed x0.window).items.length ≤ x0.window.items.length := by
        unfold roomed
        split
        · simp
        · exact Nat.le_refl _
      simp only [List.length_append, List.length_cons, List.length_nil]
      omega
    · show (keepH _ x0.holds).length ≤ _
      have := List.length_filter_le (fun h : Hold => heldB (pushedW x0.window x1) h.number) x0.holds
      unfold keepH
      omega
  · exact cvSrc_le _ (by decide) (by decide)
end Go.Proofs.YtkcajnpdmgafjaaDoor
