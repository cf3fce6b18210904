/- SendAll: a bound on the marks of its result. -/
import Derived.Test.YtkcajnpdmgafjaaDoorLK5
namespace Go.Proofs.YtkcajnpdmgafjaaDoor
open Go.RowKit
theorem resSendAll_cv (x0 : Link) (x1 : List ByteArray) (_h0 : wtLink x0 ≤ 1048576) (_h1 : wtL ByteArray.size x1 ≤ 1048576) : cvLink ((resSendAll x0 x1).1) ≤ 4294967296 := by
  have cvL_le : ∀ {x : Link}, x.queue.length ≤ 4294967296 → cvLink x ≤ 4294967296 := fun h => by unfold cvLink; rw [cntL_str]; exact h
  unfold resSendAll
  split
  · rename_i h
    unfold okSendAll at h
    simp only [Bool.and_eq_true] at h
    have := (goodL_of (sentAll_good x1 x0 0 h.1)).l
    exact cvL_le (by dsimp only; omega)
  · exact cvL_le (by decide)
end Go.Proofs.YtkcajnpdmgafjaaDoor
