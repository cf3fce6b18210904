/- Receive windows: what is given up, counted. Plain. -/
import Derived.Test.YtidephmobajikaaDoorGV1
namespace Go.Proofs.YtidephmobajikaaDoor
open Go.RowKit
theorem plus_ne (s : ByteArray) : plus s ≠ minus := fun h => by
  have := congrArg (fun b : ByteArray => b.data.toList.head?) h
  simp [plus, minus] at this
def real (es : List ByteArray) : Int := ((es.filter fun e => decide (e ≠ minus)).length : Int)
theorem real_app (a b : List ByteArray) : real (a ++ b) = real a + real b := by unfold real; rw [List.filter_append, List.length_append]; omega
theorem cntH_cons (s : Slot) (r : List Slot) : cntH (s :: r) = (if s.hav then 1 else 0) + cntH r := by
  unfold cntH
  rw [List.filter_cons]
  split <;> simp <;> omega
theorem real_cons (e : ByteArray) (r : List ByteArray) : real (e :: r) = (if e = minus then 0 else 1) + real r := by
  unfold real
  rw [List.filter_cons]
  by_cases h : e = minus <;> simp [h] <;> omega
theorem rel_cnt : ∀ (l : List Slot) (n : Int), cntH l = real (rel n l).2.2 + cntH (rel n l).2.1
  | [], n => by simp [rel, real, cntH]
  | s :: r, n => by
    have ih := rel_cnt r (aft n 1)
    unfold rel
    split
    · rename_i h
      dsimp only
      rw [cntH_cons, if_pos h, real_cons, if_neg (plus_ne _)]
      omega
    · simp [real]
theorem relE_cnt (x : ReceiveWindow) : cntH x.slots = real (relE x) + cntH (relW x).slots := rel_cnt x.slots x.next
theorem give_cnt : ∀ (k : Nat) (x : ReceiveWindow), cntH x.slots = real (giveE k x) + cntH (giveW k x).slots
  | 0, x => by simp [giveE, giveW, real]
  | k + 1, x => by
    have ih := give_cnt k (shW x)
    unfold giveE giveW
    rw [real_cons]
    obtain ⟨n, l⟩ := x
    cases l with
    | nil => rw [show shiftEv ([] : List Slot) = minus from rfl, if_pos rfl]; simpa [shW] using ih
    | cons s r =>
      rw [cntH_cons]
      have e : (shW ⟨n, s :: r⟩).slots = r := rfl
      rw [e] at ih
      by_cases h : s.hav = true
      · rw [if_pos h, show shiftEv (s :: r) = plus s.item by simp [shiftEv, h], if_neg (plus_ne _)]; omega
      · rw [if_neg h, show shiftEv (s :: r) = minus by simp [shiftEv, h], if_pos rfl]; omega
theorem giveUp_cnt (k : Nat) (x : ReceiveWindow) : cntH x.slots = real (giveE k x ++ relE (giveW k x)) + cntH (relW (giveW k x)).slots := by
  rw [real_app, give_cnt k x, relE_cnt (giveW k x)]; omega
theorem aft_aft (n : Int) (j : Nat) : aft (aft n 1) j = aft n ((j + 1 : Nat) : Int) := by unfold aft; omega
theorem aft_zero {n : Int} (h0 : 0 ≤ n) (h1 : n ≤ 65535) : aft n ((0 : Nat) : Int) = n := by unfold aft; omega
theorem rel_next : ∀ (l : List Slot) (n : Int), 0 ≤ n → n ≤ 65535 → (rel n l).1 = aft n ((rel n l).2.2.length : Nat)
  | [], n, h0, h1 => (aft_zero h0 h1).symm
  | s :: r, n, h0, h1 => by
    have ih := rel_next r (aft n 1) (aft_bd _ _).1 (aft_bd _ _).2
    unfold rel
    split
    · dsimp only
      rw [ih, aft_aft, List.length_cons]
    · exact (aft_zero h0 h1).symm
theorem give_next : ∀ (k : Nat) (x : ReceiveWindow), 0 ≤ x.next → x.next ≤ 65535 → (giveW k x).next = aft x.next (k : Nat) ∧ 0 ≤ (giveW k x).next ∧ (giveW k x).next ≤ 65535
  | 0, x, h0, h1 => ⟨(aft_zero h0 h1).symm, h0, h1⟩
  | k + 1, x, h0, h1 => by
    obtain ⟨a, b, c⟩ := give_next k (shW x) (aft_bd _ _).1 (aft_bd _ _).2
    unfold giveW
    exact ⟨by rw [a]; show aft (aft x.next 1) k = _; rw [aft_aft], b, c⟩
theorem aft_add (n : Int) (i j : Nat) : aft (aft n i) j = aft n ((i + j : Nat) : Int) := by unfold aft; omega
theorem giveUp_next (k : Nat) (x : ReceiveWindow) (h0 : 0 ≤ x.next) (h1 : x.next ≤ 65535) : (relW (giveW k x)).next = aft x.next ((giveE k x ++ relE (giveW k x)).length : Nat) := by
  obtain ⟨a, b, c⟩ := give_next k x h0 h1
  have d : (relW (giveW k x)).next = aft (giveW k x).next ((relE (giveW k x)).length : Nat) := rel_next (giveW k x).slots (giveW k x).next b c
  have e : ∀ (k : Nat) (x : ReceiveWindow), (giveE k x).length = k := by
    intro k
    induction k with
    | zero => intro x; rfl
    | succ k ih => intro x; unfold giveE; rw [List.length_cons, ih]
  rw [d, a, aft_add, List.length_append, e]
theorem gp_aft (n : Int) (j : Nat) (hj : j ≤ 65535) : gp n (aft n j) = j := by unfold gp aft; omega
end Go.Proofs.YtidephmobajikaaDoor
