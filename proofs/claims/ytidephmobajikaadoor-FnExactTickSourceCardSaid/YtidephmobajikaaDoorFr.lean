/- A reading of a struct goes over a change that leaves its blocks. Plain: no program in sight. -/
import Derived.Test.YtidephmobajikaaDoorOwn2
namespace Go.Proofs.YtidephmobajikaaDoor
open Go.RowKit
theorem IsV.frame {α : Type} {E : Elem α} {w w' : World} {v x F} (h : IsV E w v x F) (hF : ∀ b ∈ F, w'.heap[b]? = w.heap[b]?) : IsV E w' v x F := by
  obtain ⟨cs, hv, h⟩ := h; exact ⟨cs, hv, E.frame h hF⟩
end Go.Proofs.YtidephmobajikaaDoor
