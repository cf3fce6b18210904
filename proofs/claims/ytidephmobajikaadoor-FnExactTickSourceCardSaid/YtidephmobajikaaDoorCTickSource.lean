/- TickSource: a bound on the marks of its result. -/
import Derived.Test.YtidephmobajikaaDoorSRcv
import Derived.Test.YtidephmobajikaaDoorTS2
namespace Go.Proofs.YtidephmobajikaaDoor
open Go.RowKit
theorem resTickSource_cv (x0 : Source) (_h0 : wtSource x0 ≤ 1048576) : cvSource ((resTickSource x0).1) ≤ 4294967296 ∧ cntL cntPacket ((resTickSource x0).2.1) ≤ 4294967296 := by
  unfold resTickSource
  split
  · rename_i h
    unfold okTickSource at h
    simp only [Bool.and_eq_true] at h
    have g := goodS_of h.1
    have hl := g.l
    have hm := g.m
    refine ⟨cvSrc_le _ (by show x0.window.items.length ≤ _; omega) ?_, ?_⟩
    · show (keepT _ x0.holds).length ≤ _
      have := List.length_filter_le (fun h : Hold => !decide (h.untl ≤ x0.clock + 1)) x0.holds
      unfold keepT
      omega
    · show cntL cntPacket (tickP x0.window x0.quiet) ≤ _
      unfold tickP
      split
      · decide
      · simp [cntL, cntPacket, cntI, cntS, statP]
  · exact ⟨cvSrc_le _ (by decide) (by decide), by decide⟩
end Go.Proofs.YtidephmobajikaaDoor
