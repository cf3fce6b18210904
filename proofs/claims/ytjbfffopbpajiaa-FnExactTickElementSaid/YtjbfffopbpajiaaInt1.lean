/- Walks of the reference's small functions on slices of numbers. -/
import Derived.Test.YtjbfffopbpajiaaTInt
namespace Go.Proofs.Ytjbfffopbpajiaa
open Go.RowKit
theorem l1Own_c (v : Value) (xs : List Int) (F : List Nat) (w : World) (h : Sl EInt w v xs F) (hm : xs.length ≤ 4294967296) :
    Calls Try.prog 70 #[v] w (RetNew EInt 3 xs w) := by
  obtain ⟨ao, c, news, Fy, rfl, hl, hfy, hFy, hsrc⟩ := h.src
  have hFl := hfy.lt
  have hsrc2 : (ao = none ∧ c = 0 ∧ xs = []) ∨ ∃ ad, ao = some ad ∧ ∀ j u, news[j]? = some u → (w.alloc (.cells #[] 3)).cell? (ad.add j) = some u := by
    rcases hsrc with h | ⟨ad, h1, h2⟩
    · exact .inl h
    · exact .inr ⟨ad, h1, fun j u hu => kc ((Below.refl _ _).alloc (Nat.le_refl _) _) (h2 j u hu)⟩
  go_enter Try.func70, Try.ntmps70
  go_wp2_with (at_builtin; refine wpList_apd one_EInt (by decide) (by rfl) _ _ _ (by rfl) 3 (.int .i64 0) 8 Try.underlying42 info_int rfl (.slice (some ⟨w.heap.size, 0, none⟩) 0 0) [] [w.heap.size] (by rfl) (Ow.empty (Row.made _ _ _)) (Hd.one _) ao xs c (by rfl) news Fy (hfy.frame fun b hb => Below.heap_alloc _ _ _ (hFl b hb)) hsrc2 (fun b hb e => by have := hFl b hb; simp [Value.ownBlock] at e; omega) (by simpa using hl) (by unfold maxLen at hl; simp; omega) ?_)
  intro v2 w2 F2 hA
  go_wp2_with fail
  go_ret
  have hB : Below w.heap.size w w2 := ((Below.refl _ _).alloc (Nat.le_refl _) _).trans (hA.keep.below (by simp) (by simp))
  have hs : ∀ b, v2.ownBlock = some b → w.heap.size ≤ b := fun b hb => by rcases hA.same with e | e <;> rw [e] at hb <;> simp [Value.ownBlock] at hb <;> omega
  refine ⟨v2, F2, rfl, by simpa using hA.ow, hA.ow.scal scal_EInt ▸ ?_, fun b hb => ?_, hB⟩
  · cases v2.ownBlock <;> simp
  · rw [hA.ow.scal scal_EInt] at hb; exact hs b (by simpa using hb)
end Go.Proofs.Ytjbfffopbpajiaa
