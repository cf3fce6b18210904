/- Walks: the draw of EncodeRecord. -/
import Derived.Test.YtnmgaponnfjciaaDoorDrawsLog
namespace Go.Proofs.YtnmgaponnfjciaaDoor
open Go.RowKit
def PDrawEnc (w : World) (e : Ending) (w' : World) : Prop := ∃ (k : Int) (c r : ByteArray), c.size ≤ 20 ∧ r.size ≤ 20 ∧ e = .returned (.tuple #[.int .i64 k, .agg #[.string c, .string r]]) ∧ Below w.heap.size w w'
theorem ints_flat (w : World) (b : Nat) : ∀ (xs : List Int) (off : Nat), (∀ j x, xs[j]? = some x → w.cell? ⟨b, off + j, none⟩ = some (.int .i64 x)) → Cells EInt w b off xs []
  | [], _, _ => rfl
  | x :: r, off, h => by
    refine ⟨[.int .i64 x], [], [], rfl, ⟨rfl, rfl⟩, fun j hj => ?_, ints_flat w b r (off + 1) (fun j y hy => ?_)⟩
    · obtain rfl : j = 0 := by simp [EInt] at hj; exact hj
      simpa using h 0 x rfl
    · have := h (j + 1) y (by simpa using hy)
      rw [show off + 1 + j = off + (j + 1) by omega]; exact this
theorem sl_ints {w : World} {b : Nat} {t : TypeId} {xs : List Int} {cap : Nat} (h : Row w b t (xs.map (.int .i64))) (hne : xs ≠ []) (hc : xs.length ≤ cap) (hm : cap ≤ maxLen) : Sl EInt w (.slice (some ⟨b, 0, none⟩) xs.length cap) xs [b] := by
  refine ⟨some ⟨b, 0, none⟩, cap, rfl, ⟨hc, hm⟩, .inr ⟨b, 0, [], rfl, hne, rfl, ints_flat w b xs 0 (fun j x hx => ?_)⟩⟩
  rw [Nat.zero_add, h.cells j, List.getElem?_map, hx]; rfl
set_option maxHeartbeats 3200000 in
set_option maxRecDepth 100000 in
theorem DrawEncodeRecord_c (v : Value) (code : List Int) (FC : List Nat) (w : World) (hv : Sl EByte w v code FC) :
    Calls Tryd.prog 36 #[v] w (PDrawEnc w) := by
  obtain ⟨a, c, rfl⟩ := hv.slice
  have hFl := hv.lt (by decide)
  go_enter Tryd.func36, Tryd.ntmps36
  go_wp2_with fail
  have al : Below w.heap.size w (((w.alloc (.cells #[.string ⟨#[]⟩, .string ⟨#[]⟩] 27)).alloc (.cells #[.slice a code.length c, .int .i64 0, .int .u64 0] 75)).alloc (.cells #[.int .i64 0, .int .i64 1, .int .i64 12, .int .i64 59, .int .i64 60, .int .i64 (-1)] 3)) := by
    repeat refine Below.alloc ?_ (by simp <;> omega) _
    exact Below.refl _ _
  have n_RE : Row (((w.alloc (.cells #[.string ⟨#[]⟩, .string ⟨#[]⟩] 27)).alloc (.cells #[.slice a code.length c, .int .i64 0, .int .u64 0] 75)).alloc (.cells #[.int .i64 0, .int .i64 1, .int .i64 12, .int .i64 59, .int .i64 60, .int .i64 (-1)] 3)) (w.heap.size) 27 [.string ⟨#[]⟩, .string ⟨#[]⟩] := by simp [row_alloc] <;> omega
  have n_RC : Row (((w.alloc (.cells #[.string ⟨#[]⟩, .string ⟨#[]⟩] 27)).alloc (.cells #[.slice a code.length c, .int .i64 0, .int .u64 0] 75)).alloc (.cells #[.int .i64 0, .int .i64 1, .int .i64 12, .int .i64 59, .int .i64 60, .int .i64 (-1)] 3)) (w.heap.size + 1) 75 [.slice a code.length c, .int .i64 0, .int .u64 0] := by simp [row_alloc] <;> omega
  have n_RN : Row (((w.alloc (.cells #[.string ⟨#[]⟩, .string ⟨#[]⟩] 27)).alloc (.cells #[.slice a code.length c, .int .i64 0, .int .u64 0] 75)).alloc (.cells #[.int .i64 0, .int .i64 1, .int .i64 12, .int .i64 59, .int .i64 60, .int .i64 (-1)] 3)) (w.heap.size + 1 + 1) 3 [.int .i64 0, .int .i64 1, .int .i64 12, .int .i64 59, .int .i64 60, .int .i64 (-1)] := by simp [row_alloc] <;> omega
  have hs_w1 : w.heap.size + 1 + 1 < (((w.alloc (.cells #[.string ⟨#[]⟩, .string ⟨#[]⟩] 27)).alloc (.cells #[.slice a code.length c, .int .i64 0, .int .u64 0] 75)).alloc (.cells #[.int .i64 0, .int .i64 1, .int .i64 12, .int .i64 59, .int .i64 60, .int .i64 (-1)] 3)).heap.size := by simp <;> omega
  replace hv := hv.below (by decide) al
  have hB := al
  generalize (((w.alloc (.cells #[.string ⟨#[]⟩, .string ⟨#[]⟩] 27)).alloc (.cells #[.slice a code.length c, .int .i64 0, .int .u64 0] 75)).alloc (.cells #[.int .i64 0, .int .i64 1, .int .i64 12, .int .i64 59, .int .i64 60, .int .i64 (-1)] 3)) = w1 at *
  have RE := n_RE; clear n_RE
  have RC := n_RC; clear n_RC
  have RN := n_RN; clear n_RN
  clear al
  have hC : Cur 0 w1 (w.heap.size + 1) FC := ⟨code, a, c, 0, 0, RC, hv, fun b hb => by have := hFl b hb; omega, by omega, by omega, by omega⟩
  clear RC hv
  have hFg := hFl
  have hKp : Keep [w.heap.size + 1] w w1 := Keep.ofBelow hB
  clear hB
  obtain ⟨g, hg⟩ : ∃ g, g = w.heap.size + 1 := ⟨_, rfl⟩
  rw [← hg] at hC hKp RN ⊢
  have hg1 : w.heap.size ≤ g := by omega
  have hg2 : g ≤ w.heap.size + 1 := by omega
  have hg3 : w.heap.size + 1 ≤ g := by omega
  replace hg := Lib.hid hg
  have hN : Sl EInt w1 (.slice (some ⟨g + 1, 0, none⟩) 6 6) [0, 1, 12, 59, 60, -1] [g + 1] := sl_ints (xs := [0, 1, 12, 59, 60, -1]) RN (by simp) (by simp) (by unfold maxLen; simp)
  refine (among_c _ g FC _ [0, 1, 12, 59, 60, -1] [g + 1] _ hC (by omega) hN (by simp) (by simp) (by simp <;> omega)).mono ?_
  rintro e w2 ⟨k, -, rfl, hC', hk⟩
  have hs_w2 := hk.size
  replace RE := RE.keepK hk (by simp <;> omega)
  replace RN := RN.keepK hk (by simp <;> omega)
  replace hC := hC'; clear hC'
  replace hKp := hKp.trans hk
  clear hk
  clear hN
  clear RN
  have c_RE := RE.cells; have f_RE := RE.frozens
  go_wp2_with fail
  clear c_RE f_RE
  refine (logRecord_c _ g FC _ hC (by omega)).mono ?_
  rintro e w3 ⟨cc, rr, rfl, hcc, hrr, hC', hk⟩
  have hs_w3 := hk.size
  replace RE := RE.keepK hk (by simp <;> omega)
  replace hC := hC'; clear hC'
  replace hKp := hKp.trans hk
  clear hk
  have c_RE := RE.cells; have f_RE := RE.frozens
  go_wp2_with fail
  refine bodyPost_ret (v := .tuple #[.int .i64 k, .agg #[.string cc, .string rr]]) ?_ rfl ?_
  · simp [results, Tryd.results36, go_sem, c_RE, f_RE]
  · refine ⟨_, _, _, hcc, hrr, rfl, ?_⟩
    refine Keep.below (F := [g]) (B := w.heap.size) ?_ (Nat.le_refl _) (fun b hb => by simp at hb; omega)
    repeat refine Keep.setNew ?_ (by dsimp only; omega) _
    exact hKp
end Go.Proofs.YtnmgaponnfjciaaDoor
