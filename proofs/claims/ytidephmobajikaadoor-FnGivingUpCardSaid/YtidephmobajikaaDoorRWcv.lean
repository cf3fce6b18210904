/- TakeItem, GiveUpTo: bounds on the marks of their results. -/
import Derived.Test.YtidephmobajikaaDoorRW10
namespace Go.Proofs.YtidephmobajikaaDoor
open Go.RowKit
theorem relW_len (x : ReceiveWindow) : (relW x).slots.length ≤ x.slots.length := by
  unfold relW
  have : ∀ (l : List Slot) n, (rel n l).2.1.length ≤ l.length := by
    intro l
    induction l with
    | nil => intro n; exact Nat.le_refl _
    | cons s r ih =>
      intro n
      unfold rel
      split
      · have := ih (aft n 1); simp only [List.length_cons]; omega
      · exact Nat.le_refl _
  exact this _ _
theorem giveW_len : ∀ (k : Nat) (x : ReceiveWindow), (giveW k x).slots.length ≤ x.slots.length
  | 0, _ => Nat.le_refl _
  | k + 1, x => by have := giveW_len k (shW x); unfold giveW; simp only [shW, List.length_drop] at this ⊢; omega
theorem giveE_len : ∀ (k : Nat) (x : ReceiveWindow), (giveE k x).length = k
  | 0, _ => rfl
  | k + 1, x => by unfold giveE; rw [List.length_cons, giveE_len k (shW x)]
theorem cvRW_le (x : ReceiveWindow) : cvReceiveWindow x ≤ 2 * x.slots.length := by
  have : ∀ l : List Slot, cntL cntSlot l ≤ 2 * l.length := by
    intro l
    induction l with
    | nil => exact Nat.le_refl _
    | cons s r ih =>
      unfold cntL at ih ⊢
      simp only [List.map_cons, List.sum_cons, List.length_cons]; have : cntSlot s ≤ 2 := by simp [cntSlot, cntB, cntS]
      omega
  exact this _
theorem resTakeItem_cv (x0 : ReceiveWindow) (x1 : Int) (x2 : ByteArray) (_h0 : wtReceiveWindow x0 ≤ 1048576) (_h2 : x2.size ≤ 1048576) : cvReceiveWindow ((resTakeItem x0 x1 x2).1) ≤ 4294967296 ∧ cntL cntS ((resTakeItem x0 x1 x2).2.1) ≤ 4294967296 := by
  have a := cvRW_le (resTakeItem x0 x1 x2).1
  rw [cntL_str]
  unfold resTakeItem at a ⊢
  split
  · rename_i h
    rw [if_pos h] at a
    unfold okTakeItem at h
    simp only [Bool.and_eq_true] at h
    obtain ⟨n0, n1, hl, hit⟩ := good_of h.1.1.1
    have hp := gp_bd x0.next x1
    unfold takeW takeE
    unfold takeW at a
    split
    · rename_i h; rw [if_pos h] at a; dsimp only at a ⊢; refine ⟨by omega, by simp⟩
    · rename_i h
      rw [if_neg h] at a
      have h8 : gp x0.next x1 < 8 := by simp at h; exact h.2
      have b := relW_len (putW x0 x1 x2)
      have c := relE_len (putW x0 x1 x2)
      have d : (putW x0 x1 x2).slots.length ≤ 1000 := by unfold putW putL; dsimp only; rw [List.length_set, padL_len]; omega
      dsimp only at a ⊢
      refine ⟨by omega, by omega⟩
  · rename_i h
    rw [if_neg h] at a
    exact ⟨Nat.le_trans a (by decide), by decide⟩
theorem resGiveUpTo_cv (x0 : ReceiveWindow) (x1 : Int) (_h0 : wtReceiveWindow x0 ≤ 1048576) : cvReceiveWindow ((resGiveUpTo x0 x1).1) ≤ 4294967296 ∧ cntL cntS ((resGiveUpTo x0 x1).2.1) ≤ 4294967296 := by
  have a := cvRW_le (resGiveUpTo x0 x1).1
  rw [cntL_str]
  unfold resGiveUpTo at a ⊢
  split
  · rename_i h
    rw [if_pos h] at a
    unfold okGiveUp at h
    simp only [Bool.and_eq_true] at h
    obtain ⟨n0, n1, hl, hit⟩ := good_of h.1.1
    have b := relW_len (giveW (stepsN x0.next x1) x0)
    have c := relE_len (giveW (stepsN x0.next x1) x0)
    have d := giveW_len (stepsN x0.next x1) x0
    have e := stepsN_le x0.next x1
    dsimp only at a ⊢
    rw [List.length_append, giveE_len]
    exact ⟨by omega, by omega⟩
  · rename_i h
    rw [if_neg h] at a
    exact ⟨Nat.le_trans a (by decide), by decide⟩
end Go.Proofs.YtidephmobajikaaDoor
