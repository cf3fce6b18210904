/- Sources: bounds on the marks of results. -/
import Derived.Test.YtidephmobajikaaDoorSR6
namespace Go.Proofs.YtidephmobajikaaDoor
open Go.RowKit
theorem cntHolds_le : ∀ l : List Hold, cntL cntHold l ≤ 2 * l.length
  | [] => Nat.le_refl _
  | s :: r => by
    have ih := cntHolds_le r
    unfold cntL at ih ⊢
    simp only [List.map_cons, List.sum_cons, List.length_cons]
    have : cntHold s ≤ 2 := by simp [cntHold, cntI]
    omega
theorem cvSrc_le (x : Source) (h1 : x.window.items.length ≤ 1000000) (h2 : x.holds.length ≤ 1000000) : cvSource x ≤ 4294967296 := by
  have := cntHolds_le x.holds
  unfold cvSource
  simp only [cvSendWindow]
  rw [cntL_str]
  omega
end Go.Proofs.YtidephmobajikaaDoor
