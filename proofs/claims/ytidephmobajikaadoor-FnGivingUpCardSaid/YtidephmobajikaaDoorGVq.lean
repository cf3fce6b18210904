/- Receive windows: what is left after giving up is valid; nothing before is awaited. Plain. -/
import Derived.Test.YtidephmobajikaaDoorGVp
namespace Go.Proofs.YtidephmobajikaaDoor
open Go.RowKit
theorem rel_drop : ∀ (l : List Slot) (n : Int), (rel n l).2.1 = l.drop (rel n l).2.2.length ∧ havAt (rel n l).2.1 0 = false
  | [], n => ⟨rfl, rfl⟩
  | s :: r, n => by
    have ih := rel_drop r (aft n 1)
    unfold rel
    split
    · dsimp only
      rw [List.length_cons, List.drop_succ_cons]
      exact ih
    · rename_i h
      exact ⟨rfl, by simpa [havAt] using h⟩
theorem giveW_drop : ∀ (k : Nat) (x : ReceiveWindow), (giveW k x).slots = x.slots.drop k
  | 0, _ => rfl
  | k + 1, x => by unfold giveW; rw [giveW_drop k (shW x)]; simp [shW, Nat.add_comm]
theorem havAt_drop (l : List Slot) (m i : Nat) : havAt (l.drop m) i = havAt l (m + i) := by unfold havAt; rw [List.getElem?_drop]
theorem giveUp_good (k : Nat) (x : ReceiveWindow) (hg : goodRW x = true) : goodRW (relW (giveW k x)) = true := by
  have g := good_of hg
  unfold goodRW at hg
  simp only [Bool.and_eq_true, decide_eq_true_eq] at hg
  obtain ⟨⟨⟨h1, h2⟩, h3⟩, h4⟩ := hg
  obtain ⟨d1, d2⟩ := rel_drop (giveW k x).slots (giveW k x).next
  rw [giveW_drop, List.drop_drop] at d1
  have hs : (relW (giveW k x)).slots = x.slots.drop (k + (rel (giveW k x).next (x.slots.drop k)).2.2.length) := by
    unfold relW; dsimp only; rw [giveW_drop, d1]
  have hn := giveUp_next k x g.n0 g.n1
  generalize k + (rel (giveW k x).next (x.slots.drop k)).2.2.length = m at hs
  have h0 : havAt (relW (giveW k x)).slots 0 = false := d2
  rw [hs] at h0
  have e1 : isSer (relW (giveW k x)).next = true := by rw [hn]; exact aft_ser _ _
  have e2 : (x.slots.drop m).all okSlot = true := List.all_eq_true.2 fun z hz => List.all_eq_true.1 h3 z (List.mem_of_mem_drop hz)
  have e3 : ends (x.slots.drop m) = true := by
    unfold ends
    by_cases hz : (x.slots.drop m).length = 0
    · rw [decide_eq_true hz]; rfl
    · rw [decide_eq_false hz, h0, havAt_drop]
      unfold ends at h4
      rw [List.length_drop] at hz ⊢
      rw [decide_eq_false (show ¬ x.slots.length = 0 by omega)] at h4
      simp only [Bool.false_or, Bool.and_eq_true] at h4
      rw [show m + (x.slots.length - m - 1) = x.slots.length - 1 by omega, h4.2]
      rfl
  unfold goodRW
  rw [e1, hs, e2, e3, decide_eq_true (by simp; omega)]
  rfl
theorem good_first {x : ReceiveWindow} (hg : goodRW x = true) : havAt x.slots 0 = false := by
  unfold goodRW ends at hg
  simp only [Bool.and_eq_true, Bool.or_eq_true, decide_eq_true_eq, Bool.not_eq_true'] at hg
  rcases hg.2 with h | h
  · exact havAt_ge (by omega)
  · exact h.1
theorem giveUp_bef {x : ReceiveWindow} {n : Int} (hg : goodRW x = true) (hn : isSer n = true) : bef (relW (giveW (stepsN x.next n) x)).next n = false := by
  have g := good_of hg
  obtain ⟨n0, n1⟩ := isSer_iff.1 hn
  have p0 := g.n0
  have p1 := g.n1
  by_cases hb : bef x.next n = true
  · have hk : stepsN x.next n = (gp x.next n).toNat := by unfold stepsN; rw [if_pos hb]
    obtain ⟨a, b, c⟩ := give_next (stepsN x.next n) x p0 p1
    have d : (relW (giveW (stepsN x.next n) x)).next = aft (giveW (stepsN x.next n) x).next ((relE (giveW (stepsN x.next n) x)).length : Nat) := rel_next (giveW (stepsN x.next n) x).slots _ b c
    have hl := relE_len (giveW (stepsN x.next n) x)
    rw [giveW_drop, List.length_drop] at hl
    have hl8 := g.l
    have hgp := gp_bd x.next n
    have e : (giveW (stepsN x.next n) x).next = n := by
      rw [a, hk]
      unfold aft gp at *
      omega
    rw [d, e]
    generalize (relE (giveW (stepsN x.next n) x)).length = j at hl
    unfold bef btw gp aft
    rw [Bool.and_eq_false_iff]
    by_cases hj : j = 0
    · left; simp only [decide_eq_false_iff_not]; omega
    · right; simp only [decide_eq_false_iff_not]; omega
  · have hb' : bef x.next n = false := by simpa using hb
    rw [stepsN_no hb']
    show bef (relW x).next n = false
    rw [(rel_stop (good_first hg)).1]
    exact hb'
end Go.Proofs.YtidephmobajikaaDoor
