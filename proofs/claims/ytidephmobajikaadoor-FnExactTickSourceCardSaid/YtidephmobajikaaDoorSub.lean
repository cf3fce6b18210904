/- Parts of slices that read. Plain: no program in sight. -/
import Derived.Test.YtidephmobajikaaDoorOwn2
namespace Go.Proofs.YtidephmobajikaaDoor
open Go.RowKit
/-- 's[k:]' of a slice that reads: what it is, and that it reads -/
theorem Sl.dropS {P : Program} {α : Type} {E : Elem α} {w : World} {a : Option Addr} {n cap : Nat} {xs : List α} {F} (h : Sl E w (.slice a n cap) xs F) (t : TypeId) (ht : P.underlying t = some (.slice (P.elem t))) (k : Nat) (hk : k ≤ xs.length)
    (hs : ∀ W, (sizeOf (P.elem t)).run P W = .ok E.sz W) : ∃ a2 c2 F', (∀ W, (Instr.sliceAt t (.slice a n cap) (some (.int .i64 (k : Int))) none none).run P W = .ok (.slice a2 (xs.length - k) c2) W) ∧ (∀ b ∈ F', b ∈ F) ∧ Sl E w (.slice a2 (xs.length - k) c2) (xs.drop k) F' := by
  obtain ⟨a', cap', hv, hl, h⟩ := h
  cases hv
  have hrun : ∀ W, (Instr.sliceAt t (.slice a xs.length cap) (some (.int .i64 (k : Int))) none none).run P W = .ok (.slice (if cap = k then a else a.map (·.add (k * E.sz))) (xs.length - k) (cap - k)) W := fun W => by
    rw [run_sliceAt_slice (h := ht), run_slice_l (ht := ht) (h0 := by omega) (h1 := by omega), hs]; simp [Result.andThen, sliced]
  refine ⟨if cap = k then a else a.map (·.add (k * E.sz)), cap - k, ?_⟩
  rcases h with ⟨rfl, rfl, h0⟩ | ⟨b, off, F', rfl, hne, rfl, hc⟩
  · refine ⟨[], hrun, by simp, if cap = k then a else a.map (·.add (k * E.sz)), cap - k, by simp, ⟨by simp, by omega⟩, .inl ⟨by simp, rfl, fun e => ?_⟩⟩
    cases a with
    | none => rw [h0 rfl]; simp
    | some ad => split at e <;> simp at e
  · by_cases hkn : k = xs.length
    · subst hkn
      refine ⟨[], hrun, by simp, if cap = xs.length then some ⟨b, off, none⟩ else (some (⟨b, off, none⟩ : Addr)).map (·.add (xs.length * E.sz)), cap - xs.length, by simp, ⟨by simp, by omega⟩, .inl ⟨by simp, rfl, fun e => ?_⟩⟩
      split at e <;> simp at e
    · obtain ⟨cs, hf, hcs⟩ := hc.flat
      have e : xs = xs.take k ++ xs.drop k := by simp
      rw [e] at hf
      obtain ⟨c1, c2, G1, G2, rfl, rfl, h1, h2⟩ := hf.split
      have hl1 := h1.len
      have hck : ¬ cap = k := by omega
      rw [List.length_take, Nat.min_eq_left (by omega)] at hl1
      refine ⟨b :: G2, hrun, by intro x hx; simp at hx ⊢; rcases hx with hx | hx <;> simp [hx], some ⟨b, off + k * E.sz, none⟩, cap - k, ?_, ⟨by simp; omega, by omega⟩, .inr ⟨b, off + k * E.sz, G2, rfl, fun e => ?_, rfl, h2.cells fun j u hu => ?_⟩⟩
      · rw [if_neg hck]; simp only [Option.map_some, Addr.add, List.length_drop, Value.slice.injEq, Option.some.injEq, and_true, true_and]
        by_cases h0 : k * E.sz = 0 <;> simp [h0]
      · have := congrArg List.length e; simp at this; omega
      · have := hcs (c1.length + j) u (by rw [List.getElem?_append_right (by omega), show c1.length + j - c1.length = j by omega]; exact hu)
        rw [← this, hl1]; congr 2; omega
end Go.Proofs.YtidephmobajikaaDoor
