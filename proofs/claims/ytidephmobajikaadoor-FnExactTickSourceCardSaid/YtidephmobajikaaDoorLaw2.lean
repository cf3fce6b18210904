/- What the laws' walks share: readings behind draws and behind writes elsewhere; the marks of a value against its weight. Plain: no program in sight. -/
import Derived.Test.YtidephmobajikaaDoorOwn2
namespace Go.Proofs.YtidephmobajikaaDoor
open Go.RowKit
theorem IsV.keep {α : Type} {E : Elem α} {w w' : World} {v x F K} (h : IsV E w v x F) (hk : Keep K w w') (hd : ∀ b ∈ F, b ∉ K) : IsV E w' v x F := by
  obtain ⟨cs, hv, h⟩ := h; exact ⟨cs, hv, E.frame h fun b hb => hk.block b (E.lt h b hb) (hd b hb)⟩
theorem IsV.lt {α : Type} {E : Elem α} {w : World} {v x F} (h : IsV E w v x F) : ∀ b ∈ F, b < w.heap.size := by
  obtain ⟨cs, hv, h⟩ := h; exact E.lt h
theorem IsV.drewN {α : Type} {E : Elem α} {w : World} {v x F} (h : IsV E w v x F) (n : Nat) : IsV E (w.drewN n) v x F := by
  obtain ⟨cs, hv, h⟩ := h; exact ⟨cs, hv, E.frame h fun _ _ => rfl⟩
theorem Sl.drewN {α : Type} {E : Elem α} {w : World} {v} {xs : List α} {F} (h : Sl E w v xs F) (n : Nat) : Sl E (w.drewN n) v xs F := h.frame fun _ _ => rfl
theorem Sl.keep {α : Type} {E : Elem α} {w w' : World} {v} {xs : List α} {F K} (h : Sl E w v xs F) (hk : Keep K w w') (hd : ∀ b ∈ F, b ∉ K) (hz : 0 < E.sz := by decide) : Sl E w' v xs F :=
  h.frame fun b hb => hk.block b (h.lt hz b hb) (hd b hb)
theorem Ow.drewN {α : Type} {E : Elem α} {t : TypeId} {w : World} {v} {xs : List α} {F} (h : Ow E t w v xs F) (n : Nat) : Ow E t (w.drewN n) v xs F := h.frame fun _ _ => rfl
theorem Row.drewN {w g t cs} (h : Row w g t cs) (n : Nat) : Row (w.drewN n) g t cs := h
end Go.Proofs.YtidephmobajikaaDoor
