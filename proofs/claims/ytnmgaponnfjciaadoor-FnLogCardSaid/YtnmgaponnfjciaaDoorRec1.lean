/- Walks of the functions on a log's record: IsValidRecord, l27Good. -/
import Derived.Test.YtnmgaponnfjciaaDoorStr1
import Derived.Test.YtnmgaponnfjciaaDoorShelf
import Derived.Deep.RegionHeld3
namespace Go.Proofs.YtnmgaponnfjciaaDoor
open Go.RowKit

theorem bcell {W w1 : World} (hb : Below W.heap.size W w1) : (∀ b o, b < W.heap.size → w1.cell? ⟨b, o, none⟩ = W.cell? ⟨b, o, none⟩) ∧ (∀ b o, b < W.heap.size → w1.frozen? ⟨b, o, none⟩ = W.frozen? ⟨b, o, none⟩) :=
  ⟨fun b o h => hb.cell (p := ⟨b, o, none⟩) h, fun b o h => hb.frozen (p := ⟨b, o, none⟩) h⟩
theorem bfacts {W w1 : World} (hb : Below W.heap.size W w1) : (∀ b o, b < W.heap.size → w1.cell? ⟨b, o, none⟩ = W.cell? ⟨b, o, none⟩) ∧ (∀ b o, b < W.heap.size → w1.frozen? ⟨b, o, none⟩ = W.frozen? ⟨b, o, none⟩) ∧ W.heap.size ≤ w1.heap.size :=
  ⟨fun b o h => hb.cell (p := ⟨b, o, none⟩) h, fun b o h => hb.frozen (p := ⟨b, o, none⟩) h, hb.size⟩

theorem indexByte_stands (c : UInt8) : ∀ l : List UInt8, decide (0 ≤ Lib.indexByte l c) = stands c l := by
  intro l
  have h1 : ∀ l : List UInt8, -1 ≤ Lib.indexByte l c := by
    intro l
    induction l with
    | nil => simp [Lib.indexByte]
    | cons b l ih => simp only [Lib.indexByte]; split <;> (try split) <;> omega
  have h2 : ∀ l : List UInt8, (0 ≤ Lib.indexByte l c) ↔ stands c l = true := by
    intro l
    induction l with
    | nil => simp [Lib.indexByte, stands]
    | cons b l ih =>
      have h2 := h1 l
      rw [show stands c (b :: l) = (b == c || stands c l) from rfl, Bool.or_eq_true, ← ih]
      simp only [Lib.indexByte]
      by_cases hb : (b == c) = true
      · simp [hb]
      · rw [if_neg hb]
        simp only [hb]
        split
        · rename_i h3; simp at h3; simp [h3]
        · rename_i h3; simp at h3; omega
  rw [Bool.eq_iff_iff, decide_eq_true_iff]
  exact h2 l
theorem contains_c (s : ByteArray) (c : UInt8) (w : World) : Calls Tryd.prog 61 #[.string s, .string ⟨#[c]⟩] w fun e w' => e = .returned (.bool (stands c s.data.toList)) ∧ w = w' :=
  (Tryd.strings_Contains_one s c w).mono fun _ _ ⟨he, hw⟩ => ⟨by rw [he, indexByte_stands], hw.symm⟩

/-- a record that may stand in a log -/
def goodRec (c r : ByteArray) : Bool := btw 1 c.size 160 && decide ((r.size : Int) ≤ 200) && logText c.data.toList && logText r.data.toList && !stands 64 c.data.toList

set_option maxHeartbeats 400000 in
theorem IsValidRecord_c (c r : ByteArray) (w : World) (hc : c.size ≤ maxLen) (hr : r.size ≤ maxLen) :
    Calls Tryd.prog 39 #[.agg #[.string c, .string r]] w fun e w' => e = .returned (.bool (goodRec c r)) ∧ Below w.heap.size w w' := by
  go_enter Tryd.func39, Tryd.ntmps39
  go_wp2_with (first
   | (go_at_call 45; refine (within_c _ _ _ _).mono ?_; rintro e w' ⟨rfl, rfl⟩)
   | (go_at_call 60; refine (isLogText_c _ _ (by assumption)).mono ?_; rintro e w' ⟨rfl, rfl⟩)
   | (go_at_call 61; refine (contains_c _ _ _).mono ?_; rintro e w' ⟨rfl, rfl⟩))
  all_goals go_ret
  all_goals refine ⟨ret_bool ?_, (Below.refl _ _).alloc (Nat.le_refl _) _⟩
  all_goals simp [goodRec, *]
  all_goals omega

theorem goodRec_eq (c r : ByteArray) : goodRec c r = (!c.data.toList.isEmpty && (logText c.data.toList && decide ((c.size : Int) ≤ 160)) && !stands 64 c.data.toList && (logText r.data.toList && decide ((r.size : Int) ≤ 200))) := by
  have h0 : (!c.data.toList.isEmpty) = decide ((1 : Int) ≤ c.size) := by
    have e : c.data.toList.length = c.size := by simp
    cases h : c.data.toList with
    | nil => rw [h] at e; simp at e; simp [← e]
    | cons b l => rw [h] at e; simp at e; simp; omega
  rw [h0, goodRec, btw]
  cases decide ((1 : Int) ≤ c.size) <;> cases decide ((c.size : Int) ≤ 160) <;> cases decide ((r.size : Int) ≤ 200) <;> cases logText c.data.toList <;> cases logText r.data.toList <;> simp
theorem l27Good_c (c r : ByteArray) (w : World) (hc : c.size ≤ maxLen) (hr : r.size ≤ maxLen) :
    Calls Tryd.prog 43 #[.agg #[.string c, .string r]] w fun e w' => e = .returned (.bool (goodRec c r)) ∧ Below w.heap.size w w' := by
  go_enter Tryd.func43, Tryd.ntmps43
  go_wp2_with (first
   | (go_at_call 62; refine (l27Plain_c _ _ _ (by assumption)).mono ?_; rintro e w' ⟨rfl, rfl⟩)
   | (go_at_call 63; refine (l1Stands_c _ 64 _ (by assumption)).mono ?_; rintro e w' ⟨rfl, rfl⟩))
  all_goals go_ret
  all_goals refine ⟨ret_bool ?_, (Below.refl _ _).alloc (Nat.le_refl _) _⟩
  all_goals simp only [ByteArray.toList_eq] at *
  all_goals rw [goodRec_eq]
  · have h : c.data.toList = [] := by assumption
    simp [h]
  · have h : stands 64 c.data.toList = true := by assumption
    simp [h]
  · have h1 : ¬ c.data.toList = [] := by assumption
    have h2 : logText c.data.toList = true ∧ (c.size : Int) ≤ 160 := by assumption
    have h3 : ¬ stands 64 c.data.toList = true := by assumption
    simp [h2, h3, -List.isEmpty_iff, List.isEmpty_eq_false_iff.2 h1]
  · have h2 : ¬ (logText c.data.toList = true ∧ (c.size : Int) ≤ 160) := by assumption
    have h3 : (logText c.data.toList && decide ((c.size : Int) ≤ 160)) = false := by
      rw [Bool.eq_false_iff]; intro h; simp only [Bool.and_eq_true, decide_eq_true_iff] at h; exact h2 h
    rw [h3]; simp
theorem specIsValidRecord_c (c r : ByteArray) (w : World) (hc : c.size ≤ maxLen) (hr : r.size ≤ maxLen) :
    Calls Tryd.prog 40 #[.agg #[.string c, .string r]] w fun e w' => e = .returned (.bool (goodRec c r)) ∧ Below w.heap.size w w' := by
  have hb := (Below.refl w.heap.size w).alloc (Nat.le_refl _) (Obj.cells #[.string c, .string r] 27)
  go_enter Tryd.func40, Tryd.ntmps40
  go_wp2_with (go_at_call 43; refine (l27Good_c _ _ _ (by assumption) (by assumption)).mono ?_; rintro e w' ⟨rfl, hb1⟩)
  go_ret
  exact ⟨rfl, hb.trans (hb1.mono (by simp))⟩
end Go.Proofs.YtnmgaponnfjciaaDoor
