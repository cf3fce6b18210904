/- Walks of small functions on numbers and strings: within, l1In, l1Stands, isLogText, l27Plain. -/
import Derived.Test.YtidephmobajikaaDoorRep
import Derived.Test.YtidephmobajikaaDoorRows
import Derived.WalkSpells
import Derived.WalkLawsBesides
import Derived.Deep.QuietTactic
import Derived.BigQuiet
namespace Go.Proofs.YtidephmobajikaaDoor
open Go.RowKit

def btw (lo x hi : Int) : Bool := decide (lo ≤ x) && decide (x ≤ hi)
theorem ret_bool {a b : Bool} (h : a = b) : Ending.returned (.bool a) = .returned (.bool b) := by rw [h]
theorem take_snoc (s : ByteArray) (k : Nat) (h : k < s.size) : s.data.toList.take (k + 1) = s.data.toList.take k ++ [s[k]] := by
  rw [List.take_succ_eq_append_getElem (by simpa using h)]; rfl
theorem take_all (s : ByteArray) (k : Nat) (h : ¬ k < s.size) : s.data.toList.take k = s.data.toList := List.take_of_length_le (by simp; omega)
theorem drop_at (s : ByteArray) (k : Nat) (h : k < s.size) : s.data.toList.drop k = s[k] :: s.data.toList.drop (k + 1) := by
  rw [List.drop_eq_getElem_cons (by simpa using h)]; rfl
theorem drop_end (s : ByteArray) (k : Nat) (h : ¬ k < s.size) : s.data.toList.drop k = [] := List.drop_of_length_le (by simp; omega)
theorem u8_eq {a b : UInt8} : ((a.toNat : Int) == (b.toNat : Int)) = (a == b) := by
  rw [Bool.eq_iff_iff]; simp [← UInt8.toNat_inj]; omega

theorem within_c (x lo hi : Int) (w : World) :
    Calls Tryd.prog 102 #[.int .i64 x, .int .i64 lo, .int .i64 hi] w fun e w' => e = .returned (.bool (btw lo x hi)) ∧ w = w' := by
  go_enter Tryd.func102, Tryd.ntmps102
  go_wp2
  all_goals go_ret
  all_goals exact ⟨ret_bool (by simp [btw, *] <;> omega), rfl⟩
theorem l1In_c (x lo hi : Int) (w : World) :
    Calls Tryd.prog 120 #[.int .i64 x, .int .i64 lo, .int .i64 hi] w fun e w' => e = .returned (.bool (btw lo x hi)) ∧ w = w' := by
  go_enter Tryd.func120, Tryd.ntmps120
  go_wp2
  all_goals go_ret
  all_goals exact ⟨ret_bool (by simp [btw, *] <;> omega), rfl⟩

def stands (c : UInt8) (l : List UInt8) : Bool := l.any (· == c)

/-- a byte that may stand in a log -/
def logByte (b : UInt8) : Bool := btw 32 b.toNat 126 && !(b == 35)
def logText (l : List UInt8) : Bool := l.all logByte
theorem u8_eq35 {a : UInt8} : ((a.toNat : Int) == 35) = (a == 35) := u8_eq (b := 35)
end Go.Proofs.YtidephmobajikaaDoor
