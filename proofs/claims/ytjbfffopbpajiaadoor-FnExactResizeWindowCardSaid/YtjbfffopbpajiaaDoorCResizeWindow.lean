/- ResizeWindow: a bound on the marks of its result. -/
import Derived.Test.YtjbfffopbpajiaaDoorWinSize
namespace Go.Proofs.YtjbfffopbpajiaaDoor
open Go.RowKit
theorem resResizeWindow_cv (x0 : SendWindow) (x1 : Int) (_h0 : wtSendWindow x0 ≤ 1048576) : cvSendWindow ((resResizeWindow x0 x1).1) ≤ 4294967296 := by
  unfold resResizeWindow
  split
  · rename_i h
    unfold okResizeWindow at h
    simp only [Bool.and_eq_true] at h
    obtain ⟨-, h1, h2, -⟩ := goodWin_iff.1 h.1
    unfold cvSendWindow; rw [cntL_str]; simp only [List.length_drop]; omega
  · unfold cvSendWindow; rw [cntL_str]; simp
end Go.Proofs.YtjbfffopbpajiaaDoor
