/- Walks: serials: what lies behind, gaps, what is before what. -/
import Derived.Test.YtidephmobajikaaDoorElem1
namespace Go.Proofs.YtidephmobajikaaDoor
open Go.RowKit

theorem isSer_iff {x : Int} : isSer x = true ↔ 0 ≤ x ∧ x ≤ 65535 := by unfold isSer btw; simp
/-- the serial n steps behind x -/
def aft (x n : Int) : Int := (x + n) % 65536
/-- the gap from a to b -/
def gp (a b : Int) : Int := (b - a) % 65536
def bef (a b : Int) : Bool := btw 1 (gp a b) 32767
theorem gp_bd (a b : Int) : 0 ≤ gp a b ∧ gp a b ≤ 65535 := by unfold gp; omega
theorem aft_bd (a b : Int) : 0 ≤ aft a b ∧ aft a b ≤ 65535 := by unfold aft; omega
theorem aft_ser (a b : Int) : isSer (aft a b) = true := isSer_iff.2 (aft_bd a b)
theorem tmod_twice (z : Int) : ((z.tmod 65536) + 65536).tmod 65536 = z % 65536 := by
  rw [Int.tmod_eq_emod (a := z.tmod 65536 + 65536), Int.tmod_eq_emod]
  split <;> split <;> omega
theorem tmod_bd (z : Int) : -65535 ≤ z.tmod 65536 ∧ z.tmod 65536 ≤ 65535 := by
  rw [Int.tmod_eq_emod]
  split <;> omega
theorem after_c (x n : Int) (w : World) (h0 : -4611686018427387904 ≤ x + n) (h1 : x + n ≤ 4611686018427387904) :
    Calls Tryd.prog 137 #[.int .i64 x, .int .i64 n] w fun e w' => e = .returned (.int .i64 (aft x n)) ∧ w = w' := by
  have hb := tmod_bd (x + n)
  have hb1 := hb.1
  have hb2 := hb.2
  clear hb
  by_cases hz : 0 ≤ x + n
  · go_enter Tryd.func137, Tryd.ntmps137
    go_wp2
    go_ret
    exact ⟨ret_int (by unfold aft; omega), rfl⟩
  · have ht := tmod_twice (x + n)
    have ht := Lib.hid ht
    go_enter Tryd.func137, Tryd.ntmps137
    go_wp2
    go_ret
    refine ⟨ret_int ?_, rfl⟩
    have := ht.out
    rw [Int.tmod_eq_emod (a := (x + n).tmod 65536 + 65536)] at this
    unfold aft
    split at this <;> omega
theorem gap_c (a b : Int) (w : World) (h0 : -4611686018427387904 ≤ b - a) (h1 : b - a ≤ 4611686018427387904) (ha : -4611686018427387904 ≤ a) (ha' : a ≤ 4611686018427387904) :
    Calls Tryd.prog 105 #[.int .i64 a, .int .i64 b] w fun e w' => e = .returned (.int .i64 (gp a b)) ∧ w = w' := by
  go_enter Tryd.func105, Tryd.ntmps105
  go_wp2_with fail
  refine (after_c b (-a) _ (by omega) (by omega)).mono ?_
  rintro e w' ⟨rfl, rfl⟩
  go_wp2_with fail
  go_ret
  exact ⟨ret_int (by unfold aft gp; omega), rfl⟩
theorem isBefore_c (a b : Int) (w : World) (h0 : -4611686018427387904 ≤ b - a) (h1 : b - a ≤ 4611686018427387904) (ha : -4611686018427387904 ≤ a) (ha' : a ≤ 4611686018427387904) :
    Calls Tryd.prog 126 #[.int .i64 a, .int .i64 b] w fun e w' => e = .returned (.bool (bef a b)) ∧ w = w' := by
  go_enter Tryd.func126, Tryd.ntmps126
  go_wp2_with fail
  refine (gap_c a b _ h0 h1 ha ha').mono ?_
  rintro e w' ⟨rfl, rfl⟩
  go_wp2_with fail
  refine (within_c _ _ _ _).mono ?_
  rintro e w' ⟨rfl, rfl⟩
  go_wp2_with fail
  go_ret
  exact ⟨rfl, rfl⟩
theorem l2After_c (x n : Int) (w : World) (h0 : -131072 ≤ x + n) (h1 : x + n ≤ 4611686018427387904) :
    Calls Tryd.prog 112 #[.int .i64 x, .int .i64 n] w fun e w' => e = .returned (.int .i64 (aft x n)) ∧ w = w' := by
  have h2 : 0 ≤ x + n + 131072 := by omega
  go_enter Tryd.func112, Tryd.ntmps112
  go_wp2
  go_ret
  exact ⟨ret_int (by unfold aft; omega), rfl⟩
theorem l2Gap_c (a b : Int) (w : World) (h0 : -65536 ≤ b - a) (h1 : b - a ≤ 4611686018427387904) :
    Calls Tryd.prog 110 #[.int .i64 a, .int .i64 b] w fun e w' => e = .returned (.int .i64 (gp a b)) ∧ w = w' := by
  have h2 : 0 ≤ b - a + 65536 := by omega
  go_enter Tryd.func110, Tryd.ntmps110
  go_wp2
  go_ret
  exact ⟨ret_int (by unfold gp; omega), rfl⟩
theorem l2Before_c (a b : Int) (w : World) (h0 : -65536 ≤ b - a) (h1 : b - a ≤ 4611686018427387904) :
    Calls Tryd.prog 130 #[.int .i64 a, .int .i64 b] w fun e w' => e = .returned (.bool (bef a b)) ∧ w = w' := by
  go_enter Tryd.func130, Tryd.ntmps130
  go_wp2_with fail
  refine (l2Gap_c a b _ h0 h1).mono ?_
  rintro e w' ⟨rfl, rfl⟩
  go_wp2_with fail
  refine (l1In_c _ _ _ _).mono ?_
  rintro e w' ⟨rfl, rfl⟩
  go_wp2_with fail
  go_ret
  exact ⟨rfl, rfl⟩
end Go.Proofs.YtidephmobajikaaDoor
