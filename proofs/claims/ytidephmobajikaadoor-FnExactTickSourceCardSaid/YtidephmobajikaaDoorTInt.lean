/- Walks of the exact laws' helpers on slices of numbers: size, copy, equality, mark, held. -/
import Derived.Test.YtidephmobajikaaDoorOwn2
import Derived.Test.YtidephmobajikaaDoorStr1
import Derived.WalkSpells
import Derived.WalkLawsBesides
import Derived.Deep.QuietTactic
import Derived.BigQuiet
import Derived.Deep.RegionHeld3
import Derived.Deep.OwnRows
namespace Go.Proofs.YtidephmobajikaaDoor
open Go.RowKit

theorem ret_int {a b : Int} (h : a = b) : Ending.returned (.int .i64 a) = .returned (.int .i64 b) := by rw [h]
theorem info_int : (Tryd.prog.info? 3).map (fun i => (i.zero, i.size, i.bytes)) = some (some (.int .i64 0), 1, 8) := by kernel_rfl

/-- what index k of a slice of numbers gives -/
theorem Sl.int {w : World} {a : Option Addr} {n cap : Nat} {xs : List Int} {F} (h : Sl EInt w (.slice a n cap) xs F) : n = xs.length ∧ n ≤ maxLen ∧
    ∀ k (hk : k < xs.length), ∃ b off, a = some ⟨b, off, none⟩ ∧ w.cell? ⟨b, off + k, none⟩ = some (.int .i64 xs[k]) := by
  obtain ⟨a', cap', hv, hl, h⟩ := h
  cases hv
  refine ⟨rfl, by omega, fun k hk => ?_⟩
  rcases h with ⟨rfl, _⟩ | ⟨b, off, F', rfl, _, _, hc⟩
  · simp at hk
  · obtain ⟨cs, F1, ⟨rfl, _⟩, hj, _⟩ := hc.get k hk
    exact ⟨b, off, rfl, by simpa [EInt] using hj 0 (by decide)⟩



theorem sum_cntI (xs : List Int) (k : Nat) (h : k ≤ xs.length) : psum cntI xs k = k := by
  have : ∀ ys : List Int, (ys.map cntI).sum = ys.length := fun ys => by
    induction ys with
    | nil => rfl
    | cons y r ih => simp only [List.map_cons, List.sum_cons, ih, List.length_cons, cntI]; omega
  unfold psum; rw [this]; simp; omega
theorem cntL_int (xs : List Int) : cntL cntI xs = xs.length := by have := sum_cntI xs xs.length (Nat.le_refl _); rwa [psum_all] at this
end Go.Proofs.YtidephmobajikaaDoor
