/- Walks of the small functions on elements: serials, clocks, faces. -/
import Derived.Test.YtidephmobajikaaDoorTInt
import Derived.Test.YtidephmobajikaaDoorStr1
namespace Go.Proofs.YtidephmobajikaaDoor
open Go.RowKit

def isSer (x : Int) : Bool := btw 0 x 65535
def isClk (x : Int) : Bool := btw 0 x 9999
def isFac (x : Int) : Bool := btw 1 x 7
theorem IsSerial_c (x : Int) (w : World) : Calls Tryd.prog 101 #[.int .i64 x] w fun e w' => e = .returned (.bool (isSer x)) ∧ w = w' := by
  go_enter Tryd.func101, Tryd.ntmps101
  go_wp2_with (go_at_call 102; refine (within_c _ _ _ _).mono ?_; rintro e w' ⟨rfl, rfl⟩)
  go_ret
  exact ⟨rfl, rfl⟩
theorem l2Good_c (x : Int) (w : World) : Calls Tryd.prog 108 #[.int .i64 x] w fun e w' => e = .returned (.bool (isSer x)) ∧ w = w' := by
  go_enter Tryd.func108, Tryd.ntmps108
  go_wp2_with (go_at_call 120; refine (l1In_c _ _ _ _).mono ?_; rintro e w' ⟨rfl, rfl⟩)
  go_ret
  exact ⟨rfl, rfl⟩
theorem isClock_c (x : Int) (w : World) : Calls Tryd.prog 202 #[.int .i64 x] w fun e w' => e = .returned (.bool (isClk x)) ∧ w = w' := by
  go_enter Tryd.func202, Tryd.ntmps202
  go_wp2_with (go_at_call 102; refine (within_c _ _ _ _).mono ?_; rintro e w' ⟨rfl, rfl⟩)
  go_ret
  exact ⟨rfl, rfl⟩
theorem l11Clock_c (x : Int) (w : World) : Calls Tryd.prog 198 #[.int .i64 x] w fun e w' => e = .returned (.bool (isClk x)) ∧ w = w' := by
  go_enter Tryd.func198, Tryd.ntmps198
  go_wp2_with (go_at_call 120; refine (l1In_c _ _ _ _).mono ?_; rintro e w' ⟨rfl, rfl⟩)
  go_ret
  exact ⟨rfl, rfl⟩

/-- number i of a list is within bounds, and greater than the one before it -/
def risAt (lo hi : Int) (zs : List Int) (i : Nat) : Bool := btw lo (zs.getD i 0) hi && (i == 0 || decide (zs.getD (i - 1) 0 < zs.getD i 0))
def rising (lo hi : Int) (zs : List Int) : Bool := allUpTo (risAt lo hi zs) zs.length
theorem risAt_zero {lo hi : Int} {zs : List Int} (h : 0 < zs.length) : risAt lo hi zs 0 = btw lo zs[0] hi := by simp [risAt, h]
theorem risAt_succ {lo hi : Int} {zs : List Int} {m : Nat} (h : m + 1 < zs.length) : risAt lo hi zs (m + 1) = (btw lo zs[m + 1] hi && decide (zs[m]'(by omega) < zs[m + 1])) := by
  simp [risAt, h, show m < zs.length by omega]
end Go.Proofs.YtidephmobajikaaDoor
