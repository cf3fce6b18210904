/- DropItems: a bound on the marks of its result. -/
import Derived.Test.YtjbfffopbpajiaaDoorWinDrop
namespace Go.Proofs.YtjbfffopbpajiaaDoor
open Go.RowKit
theorem cvWin_len (x : SendWindow) : cvSendWindow x = x.items.length := by unfold cvSendWindow; rw [cntL_str]
theorem goodWin_cv {x : SendWindow} (h : goodWin x = true) : x.items.length ≤ 6 := by
  obtain ⟨-, h1, h2, -⟩ := goodWin_iff.1 h
  omega
theorem resDropItems_cv (x0 : SendWindow) (x1 : Int) (h0 : wtSendWindow x0 ≤ 1048576) : cvSendWindow ((resDropItems x0 x1).1) ≤ 4294967296 := by
  unfold resDropItems
  split
  · rename_i h
    unfold okDropItems at h
    simp only [Bool.and_eq_true] at h
    have := goodWin_cv h.1.1
    rw [cvWin_len]; simp only [List.length_drop]; omega
  · rw [cvWin_len]; simp
end Go.Proofs.YtjbfffopbpajiaaDoor
