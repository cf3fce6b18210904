/- PushItem: a bound on the marks of its result. -/
import Derived.Test.YtnbccfnnamgfiaaDoorPushSpec2
namespace Go.Proofs.YtnbccfnnamgfiaaDoor
open Go.RowKit
theorem resPushItem_cv (x0 : SendWindow) (x1 : ByteArray) (_h0 : wtSendWindow x0 ≤ 1048576) (_h1 : x1.size ≤ 1048576) : cvSendWindow ((resPushItem x0 x1).1) ≤ 4294967296 := by
  unfold resPushItem
  split
  · rename_i h
    unfold okPushItem at h
    simp only [Bool.and_eq_true] at h
    obtain ⟨-, h1, h2, -⟩ := goodWin_iff.1 h.1
    unfold cvSendWindow; rw [cntL_str]
    show ((roomed x0).items ++ [x1]).length ≤ _
    unfold roomed
    split <;> simp <;> omega
  · unfold cvSendWindow; rw [cntL_str]; simp
end Go.Proofs.YtnbccfnnamgfiaaDoor
