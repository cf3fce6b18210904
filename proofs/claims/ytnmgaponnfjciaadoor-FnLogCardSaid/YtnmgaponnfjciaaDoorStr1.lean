/- Walks of small functions on numbers and strings: within, l1In, l1Stands, isLogText, l27Plain. -/
import Derived.Test.YtnmgaponnfjciaaDoorRep
import Derived.Test.YtnmgaponnfjciaaDoorRows
import Derived.WalkSpells
import Derived.WalkLawsBesides
import Derived.Deep.QuietTactic
import Derived.BigQuiet
namespace Go.Proofs.YtnmgaponnfjciaaDoor
open Go.RowKit

def btw (lo x hi : Int) : Bool := decide (lo ≤ x) && decide (x ≤ hi)
theorem ret_bool {a b : Bool} (h : a = b) : Ending.returned (.bool a) = .returned (.bool b) := by rw [h]
theorem take_snoc (s : ByteArray) (k : Nat) (h : k < s.size) : s.data.toList.take (k + 1) = s.data.toList.take k ++ [s[k]] := by
  rw [List.take_succ_eq_append_getElem (by simpa using h)]; rfl
theorem take_all (s : ByteArray) (k : Nat) (h : ¬ k < s.size) : s.data.toList.take k = s.data.toList := List.take_of_length_le (by simp; omega)
theorem drop_at (s : ByteArray) (k : Nat) (h : k < s.size) : s.data.toList.drop k = s[k] :: s.data.toList.drop (k + 1) := by
  rw [List.drop_eq_getElem_cons (by simpa using h)]; rfl
theorem drop_end (s : ByteArray) (k : Nat) (h : ¬ k < s.size) : s.data.toList.drop k = [] := List.drop_of_length_le (by simp; omega)
theorem u8_eq {a b : UInt8} : ((a.toNat : Int) == (b.toNat : Int)) = (a == b) := by
  rw [Bool.eq_iff_iff]; simp [← UInt8.toNat_inj]; omega

theorem within_c (x lo hi : Int) (w : World) :
    Calls Tryd.prog 45 #[.int .i64 x, .int .i64 lo, .int .i64 hi] w fun e w' => e = .returned (.bool (btw lo x hi)) ∧ w = w' := by
  go_enter Tryd.func45, Tryd.ntmps45
  go_wp2
  all_goals go_ret
  all_goals exact ⟨ret_bool (by simp [btw, *] <;> omega), rfl⟩
theorem l1In_c (x lo hi : Int) (w : World) :
    Calls Tryd.prog 42 #[.int .i64 x, .int .i64 lo, .int .i64 hi] w fun e w' => e = .returned (.bool (btw lo x hi)) ∧ w = w' := by
  go_enter Tryd.func42, Tryd.ntmps42
  go_wp2
  all_goals go_ret
  all_goals exact ⟨ret_bool (by simp [btw, *] <;> omega), rfl⟩

def stands (c : UInt8) (l : List UInt8) : Bool := l.any (· == c)
set_option maxHeartbeats 400000 in
theorem l1Stands_c (s : ByteArray) (c : UInt8) (w : World) (hs : s.size ≤ maxLen) :
    Calls Tryd.prog 63 #[.string s, .int .u8 c.toNat] w fun e w' => e = .returned (.bool (stands c s.data.toList)) ∧ w = w' := by
  unfold maxLen at hs
  go_enter Tryd.func63, Tryd.ntmps63
  go_wp2
  go_loop [5] (fun i => ∃ k : Nat, k ≤ s.size ∧ i = .int .i64 k ∧ Hid (stands c s.data.toList = stands c (s.data.toList.drop k))) (fun i => s.size - (intOf i).toNat)
  case atStart => exact ⟨0, Nat.zero_le _, rfl, rfl⟩
  case round =>
    obtain ⟨k, hk, rfl, hz⟩ := hrel
    by_cases hlt : k < s.size
    · have hz := Lib.hid (hz.out.trans (by rw [drop_at s k hlt]; rfl : _ = (s[k] == c || stands c (s.data.toList.drop (k + 1)))))
      by_cases he : ((s[k].toNat : Int) == (c.toNat : Int)) = true
      · go_wp2
        go_ret
        rw [u8_eq] at he
        exact ⟨ret_bool (by rw [hz.out, he]; rfl), rfl⟩
      · have he := eq_false_of_ne_true he
        go_wp2
        go_round
        case rel => rw [u8_eq] at he; exact ⟨k + 1, by omega, by go_num, by refine Lib.hid ?_; rw [hz.out, he]; rfl⟩
        case measure => simp [intOf]; omega
    · go_wp2
      go_ret
      exact ⟨ret_bool (by rw [hz.out, drop_end s k hlt]; rfl), rfl⟩

/-- a byte that may stand in a log -/
def logByte (b : UInt8) : Bool := btw 32 b.toNat 126 && !(b == 35)
def logText (l : List UInt8) : Bool := l.all logByte
theorem u8_eq35 {a : UInt8} : ((a.toNat : Int) == 35) = (a == 35) := u8_eq (b := 35)
set_option maxHeartbeats 400000 in
theorem isLogText_c (s : ByteArray) (w : World) (hs : s.size ≤ maxLen) :
    Calls Tryd.prog 60 #[.string s] w fun e w' => e = .returned (.bool (logText s.data.toList)) ∧ w = w' := by
  unfold maxLen at hs
  go_enter Tryd.func60, Tryd.ntmps60
  go_wp2
  go_loop [6] (fun i => ∃ k : Nat, k ≤ s.size ∧ i = .int .i64 k ∧ Hid (logText s.data.toList = logText (s.data.toList.drop k))) (fun i => s.size - (intOf i).toNat)
  case atStart => exact ⟨0, Nat.zero_le _, rfl, rfl⟩
  case round =>
    obtain ⟨k, hk, rfl, hz⟩ := hrel
    by_cases hlt : k < s.size
    · have hz := Lib.hid (hz.out.trans (by rw [drop_at s k hlt]; rfl : _ = (logByte s[k] && logText (s.data.toList.drop (k + 1)))))
      have hb : (s[k].toNat : Int) ≤ 255 := by have := s[k].toNat_lt; omega
      go_wp2_with (go_at_call 45; refine (within_c _ _ _ _).mono ?_; rintro e w' ⟨rfl, rfl⟩)
      · have h1 : btw 32 s[k].toNat 126 = true := by assumption
        have h2 : ((s[k].toNat : Int) == 35) = true := by assumption
        go_ret
        exact ⟨ret_bool (by rw [hz.out]; rw [u8_eq35] at h2; simp [logByte, h2]), rfl⟩
      · have h1 : btw 32 s[k].toNat 126 = true := by assumption
        have h2 : ((s[k].toNat : Int) == 35) = false := by assumption
        exact ⟨⟨k + 1, by omega, by go_num, by refine Lib.hid ?_; rw [hz.out]; rw [u8_eq35] at h2; simp [logByte, h1, h2]⟩, by simp [intOf]; omega⟩
      · have h1 : ¬ btw 32 s[k].toNat 126 = true := by assumption
        go_ret
        exact ⟨ret_bool (by rw [hz.out]; simp [logByte, h1]), rfl⟩
    · go_wp2
      go_ret
      exact ⟨ret_bool (by rw [hz.out, drop_end s k hlt]; rfl), rfl⟩
set_option maxHeartbeats 400000 in
theorem l27Plain_c (s : ByteArray) (n : Int) (w : World) (hs : s.size ≤ maxLen) :
    Calls Tryd.prog 62 #[.string s, .int .i64 n] w fun e w' => e = .returned (.bool (logText s.data.toList && decide ((s.size : Int) ≤ n))) ∧ w = w' := by
  unfold maxLen at hs
  go_enter Tryd.func62, Tryd.ntmps62
  go_wp2
  go_loop [5] (fun i => ∃ k : Nat, k ≤ s.size ∧ i = .int .i64 k ∧ Hid (logText s.data.toList = logText (s.data.toList.drop k))) (fun i => s.size - (intOf i).toNat)
  case atStart => exact ⟨0, Nat.zero_le _, rfl, rfl⟩
  case round =>
    obtain ⟨k, hk, rfl, hz⟩ := hrel
    by_cases hlt : k < s.size
    · have hz := Lib.hid (hz.out.trans (by rw [drop_at s k hlt]; rfl : _ = (logByte s[k] && logText (s.data.toList.drop (k + 1)))))
      have hb : (s[k].toNat : Int) ≤ 255 := by have := s[k].toNat_lt; omega
      go_wp2_with (go_at_call 42; refine (l1In_c _ _ _ _).mono ?_; rintro e w' ⟨rfl, rfl⟩)
      · have h1 : btw 32 s[k].toNat 126 = true := by assumption
        have h2 : ((s[k].toNat : Int) == 35) = true := by assumption
        go_ret
        exact ⟨ret_bool (by rw [hz.out]; rw [u8_eq35] at h2; simp [logByte, h2]), rfl⟩
      · have h1 : btw 32 s[k].toNat 126 = true := by assumption
        have h2 : ((s[k].toNat : Int) == 35) = false := by assumption
        exact ⟨⟨k + 1, by omega, by go_num, by refine Lib.hid ?_; rw [hz.out]; rw [u8_eq35] at h2; simp [logByte, h1, h2]⟩, by simp [intOf]; omega⟩
      · have h1 : ¬ btw 32 s[k].toNat 126 = true := by assumption
        go_ret
        exact ⟨ret_bool (by rw [hz.out]; simp [logByte, h1]), rfl⟩
    · go_wp2
      go_ret
      exact ⟨ret_bool (by rw [hz.out, drop_end s k hlt]; simp [logText]), rfl⟩
end Go.Proofs.YtnmgaponnfjciaaDoor
