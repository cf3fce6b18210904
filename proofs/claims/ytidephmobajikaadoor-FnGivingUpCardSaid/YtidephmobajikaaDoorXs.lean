/- A string as a row of one. -/
import Derived.Test.YtidephmobajikaaDoorX6
import Derived.Test.YtidephmobajikaaDoorTStr
namespace Go.Proofs.YtidephmobajikaaDoor
open Go.RowKit
theorem rep_s {s : ByteArray} (h : s.size ≤ maxLen) (w : World) : Flat EStr w [.string s] [s] [] := ⟨_, [], [], [], by simp, by simp, ⟨rfl, h, rfl⟩, rfl, rfl⟩
theorem rep_s2 {s r : ByteArray} (h : s.size ≤ maxLen) (h2 : r.size ≤ maxLen) (w : World) : Flat EStr w [.string s, .string r] [s, r] [] := ⟨[.string s], [.string r], [], [], by simp, by simp, ⟨rfl, h, rfl⟩, rep_s h2 w⟩
theorem t_sl {c : Cx} {fr : Fr} {H : List Pc} {Φ : Gl} {α : Type} {E : Elem α} {v : Value} {xs : List α} {F : List Nat} (h : ∀ a cp, v = .slice a xs.length cp → xs.length ≤ cp → cp ≤ 9223372036854775807 → T c fr H Φ) (hm : .sl E v xs F ∈ H := by first | exact .head _ | exact .tail _ (.head _) | exact .tail _ (.tail _ (.head _)) | exact .tail _ (.tail _ (.tail _ (.head _))) | exact .tail _ (.tail _ (.tail _ (.tail _ (.head _)))) | exact .tail _ (.tail _ (.tail _ (.tail _ (.tail _ (.head _))))) | exact .tail _ (.tail _ (.tail _ (.tail _ (.tail _ (.tail _ (.head _)))))) | exact .tail _ (.tail _ (.tail _ (.tail _ (.tail _ (.tail _ (.tail _ (.head _))))))) | exact .tail _ (.tail _ (.tail _ (.tail _ (.tail _ (.tail _ (.tail _ (.tail _ (.head _)))))))) | exact .tail _ (.tail _ (.tail _ (.tail _ (.tail _ (.tail _ (.tail _ (.tail _ (.tail _ (.head _))))))))) | exact .tail _ (.tail _ (.tail _ (.tail _ (.tail _ (.tail _ (.tail _ (.tail _ (.tail _ (.tail _ (.head _)))))))))) | exact .tail _ (.tail _ (.tail _ (.tail _ (.tail _ (.tail _ (.tail _ (.tail _ (.tail _ (.tail _ (.tail _ (.head _))))))))))) | exact .tail _ (.tail _ (.tail _ (.tail _ (.tail _ (.tail _ (.tail _ (.tail _ (.tail _ (.tail _ (.tail _ (.tail _ (.head _)))))))))))) | exact .tail _ (.tail _ (.tail _ (.tail _ (.tail _ (.tail _ (.tail _ (.tail _ (.tail _ (.tail _ (.tail _ (.tail _ (.tail _ (.head _)))))))))))))) : T c fr H Φ := .mk fun ac w s g => by
  obtain ⟨-, hs⟩ := s.get hm
  obtain ⟨a, cp, rfl⟩ := hs.slice
  obtain ⟨-, h2, h3⟩ := hs.caps
  exact (h a cp rfl h2 (by unfold maxLen at h3; omega)).h ac w s g
end Go.Proofs.YtidephmobajikaaDoor
