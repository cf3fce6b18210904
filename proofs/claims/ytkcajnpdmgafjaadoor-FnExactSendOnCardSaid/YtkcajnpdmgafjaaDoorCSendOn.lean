/- SendOn: a bound on the marks of its result. -/
import Derived.Test.YtkcajnpdmgafjaaDoorLK3
namespace Go.Proofs.YtkcajnpdmgafjaaDoor
open Go.RowKit
theorem cvL_le {x : Link} (h : x.queue.length ≤ 4294967296) : cvLink x ≤ 4294967296 := by unfold cvLink; rw [cntL_str]; exact h
theorem resSendOn_cv (x0 : Link) (x1 : ByteArray) (_h0 : wtLink x0 ≤ 1048576) (_h1 : x1.size ≤ 1048576) : cvLink ((resSendOn x0 x1).1) ≤ 4294967296 := by
  unfold resSendOn
  split
  · rename_i h
    unfold okSendOn at h
    simp only [Bool.and_eq_true] at h
    have := (goodL_of (sent_good h.1 h.2)).l
    exact cvL_le (by dsimp only; omega)
  · exact cvL_le (by decide)
end Go.Proofs.YtkcajnpdmgafjaaDoor
