/- Walks: a record's line, the program's and the reference's; EncodeRecord. -/
import Derived.Test.YtnmgaponnfjciaaDoorLogStr
import Derived.Test.YtnmgaponnfjciaaDoorTyLogRecord
namespace Go.Proofs.YtnmgaponnfjciaaDoor
open Go.RowKit
theorem goodRec_L (c r : ByteArray) : goodRec c r = goodL c.data.toList r.data.toList := by
  unfold goodRec goodL; rw [size_list, size_list]
theorem ret_tup2 {a b : ByteArray} {x y : Bool} (h : a = b) (h2 : x = y) : Ending.returned (.tuple #[.string a, .bool x]) = .returned (.tuple #[.string b, .bool y]) := by rw [h, h2]
set_option maxHeartbeats 400000 in
theorem Cut_c (s : ByteArray) (c : UInt8) (w : World) (hs : s.size ≤ maxLen) :
    Calls Tryd.prog 71 #[.string s, .string ⟨#[c]⟩] w fun e w' => e = .returned (.tuple #[.string (cutB c s), .string (cutA c s), .bool (stands c s.data.toList)]) ∧ ∃ j, w' = w.drewN j := by
  go_enter Tryd.func71, Tryd.ntmps71
  go_wp2_with (go_at_call 81; refine (liteCut_c _ _ _ hs).mono ?_; rintro e w' ⟨rfl, j, rfl⟩)
  refine bodyPost_ret (v := .tuple #[.string (cutB c s), .string (cutA c s), .bool (stands c s.data.toList)]) ?_ rfl ⟨rfl, _, rfl⟩
  simp [results, Tryd.results71, go_sem]
theorem size_of_list {s : ByteArray} {n : Nat} (h : s.data.toList.length ≤ n) : s.size ≤ n := by rwa [size_list] at h
set_option maxHeartbeats 400000 in
/-- AppendChecksum at a text without '#' that is not long -/
theorem AppendChecksum_ok (s : ByteArray) (F : List Nat) (w : World) (hs0 : s.size ≤ 3000) (h35 : ∀ b ∈ s.data.toList, b ≠ 35) (hT : IsV ETab w (.agg #[]) () F) :
    Calls Tryd.prog 66 #[.string s] w fun e w' => e = .returned (.tuple #[.string (bs (sealL s.data.toList)), .bool true]) ∧ Below w.heap.size w w' := by
  have hl := sumL_lt s.data.toList
  have hD : (bs (Lib.decDigits (sumL s.data.toList))).size ≤ 6 := by rw [bs_size]; exact digit_len 5 _ (by omega)
  have hS : Hid (s ++ ⟨#[35]⟩ ++ bs (Lib.decDigits (sumL s.data.toList)) = bs (sealL s.data.toList)) := by
    refine Lib.hid ?_
    rw [app_bs, app_list, bs_list]; congr 1; simp [sealL]
  have hI := fun w F hT => Itoa_c (sumL s.data.toList) (by omega) F w hT
  have hs : s.size ≤ maxLen := by unfold maxLen; omega
  have hst : stands 35 s.data.toList = false := by unfold stands; rw [List.any_eq_false]; intro x hx; simp; exact h35 x hx
  have hct := fun w => contains_c s 35 w
  rw [hst] at hct
  generalize bs (Lib.decDigits (sumL s.data.toList)) = D at *
  clear hst h35
  go_enter Tryd.func66, Tryd.ntmps66
  go_wp2_with (first
   | (go_at_call 61; refine (hct _).mono ?_; rintro e w' ⟨rfl, rfl⟩)
   | (go_at_call 77; refine (checksum_c _ _ (by assumption)).mono ?_; rintro e w' ⟨rfl, rfl⟩)
   | (go_at_call 67; refine (hI _ _ hT).mono ?_; rintro e w' ⟨rfl, hb⟩))
  refine bodyPost_ret (v := .tuple #[.string (s ++ ⟨#[35]⟩ ++ D), .bool true]) ?_ rfl ⟨ret_tup2 hS.out rfl, hb⟩
  simp [results, Tryd.results66, go_sem]
end Go.Proofs.YtnmgaponnfjciaaDoor
