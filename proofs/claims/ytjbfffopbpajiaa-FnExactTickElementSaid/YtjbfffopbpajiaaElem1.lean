/- Walks of the small functions on elements: serials, clocks, faces. -/
import Derived.Test.YtjbfffopbpajiaaTInt
import Derived.Test.YtjbfffopbpajiaaStr1
namespace Go.Proofs.Ytjbfffopbpajiaa
open Go.RowKit

def isSer (x : Int) : Bool := btw 0 x 65535
def isClk (x : Int) : Bool := btw 0 x 9999
def isFac (x : Int) : Bool := btw 1 x 7
theorem IsSerial_c (x : Int) (w : World) : Calls Try.prog 40 #[.int .i64 x] w fun e w' => e = .returned (.bool (isSer x)) ∧ w = w' := by
  go_enter Try.func40, Try.ntmps40
  go_wp2_with (go_at_call 24; refine (within_c _ _ _ _).mono ?_; rintro e w' ⟨rfl, rfl⟩)
  go_ret
  exact ⟨rfl, rfl⟩
theorem l2Good_c (x : Int) (w : World) : Calls Try.prog 37 #[.int .i64 x] w fun e w' => e = .returned (.bool (isSer x)) ∧ w = w' := by
  go_enter Try.func37, Try.ntmps37
  go_wp2_with (go_at_call 48; refine (l1In_c _ _ _ _).mono ?_; rintro e w' ⟨rfl, rfl⟩)
  go_ret
  exact ⟨rfl, rfl⟩
theorem isClock_c (x : Int) (w : World) : Calls Try.prog 53 #[.int .i64 x] w fun e w' => e = .returned (.bool (isClk x)) ∧ w = w' := by
  go_enter Try.func53, Try.ntmps53
  go_wp2_with (go_at_call 24; refine (within_c _ _ _ _).mono ?_; rintro e w' ⟨rfl, rfl⟩)
  go_ret
  exact ⟨rfl, rfl⟩
theorem l11Clock_c (x : Int) (w : World) : Calls Try.prog 47 #[.int .i64 x] w fun e w' => e = .returned (.bool (isClk x)) ∧ w = w' := by
  go_enter Try.func47, Try.ntmps47
  go_wp2_with (go_at_call 48; refine (l1In_c _ _ _ _).mono ?_; rintro e w' ⟨rfl, rfl⟩)
  go_ret
  exact ⟨rfl, rfl⟩
theorem isFace_c (x : Int) (w : World) : Calls Try.prog 62 #[.int .i64 x] w fun e w' => e = .returned (.bool (isFac x)) ∧ w = w' := by
  go_enter Try.func62, Try.ntmps62
  go_wp2_with (go_at_call 24; refine (within_c _ _ _ _).mono ?_; rintro e w' ⟨rfl, rfl⟩)
  go_ret
  exact ⟨rfl, rfl⟩

/-- number i of a list is within bounds, and greater than the one before it -/
def risAt (lo hi : Int) (zs : List Int) (i : Nat) : Bool := btw lo (zs.getD i 0) hi && (i == 0 || decide (zs.getD (i - 1) 0 < zs.getD i 0))
def rising (lo hi : Int) (zs : List Int) : Bool := allUpTo (risAt lo hi zs) zs.length
theorem risAt_zero {lo hi : Int} {zs : List Int} (h : 0 < zs.length) : risAt lo hi zs 0 = btw lo zs[0] hi := by simp [risAt, h]
theorem risAt_succ {lo hi : Int} {zs : List Int} {m : Nat} (h : m + 1 < zs.length) : risAt lo hi zs (m + 1) = (btw lo zs[m + 1] hi && decide (zs[m]'(by omega) < zs[m + 1])) := by
  simp [risAt, h, show m < zs.length by omega]
set_option maxHeartbeats 800000 in
theorem areFaces_c (v : Value) (zs : List Int) (F : List Nat) (w : World) (h : Sl EInt w v zs F) :
    Calls Try.prog 41 #[v] w fun e w' => e = .returned (.bool (rising 1 7 zs)) ∧ w = w' := by
  obtain ⟨a, cap, rfl⟩ := h.slice
  obtain ⟨-, hl, hc⟩ := h.int
  unfold maxLen at hl
  go_enter Try.func41, Try.ntmps41
  go_wp2
  go_loop [3, 4, 7] (fun _ _ i => ∃ k : Nat, k ≤ zs.length ∧ i = .int .i64 k ∧ Hid (∀ j, j < k → risAt 1 7 zs j = true)) (fun _ _ i => zs.length - (intOf i).toNat)
  case atStart => exact ⟨0, Nat.zero_le _, rfl, fun j hj => by omega⟩
  case round =>
    obtain ⟨k, hk, rfl, hz⟩ := hrel
    by_cases hlt : k < zs.length
    · obtain ⟨b, off, rfl, c0⟩ := hc k hlt
      rcases k with _ | m
      · have hr := Lib.hid (risAt_zero (lo := 1) (hi := 7) hlt)
        clear hc
        simp only [Nat.add_zero] at c0
        go_wp2_with (go_at_call 62; refine (isFace_c _ _).mono ?_; rintro e w' ⟨rfl, rfl⟩)
        · have t : btw 1 zs[0] 7 = true := by assumption
          exact ⟨⟨1, by omega, by go_num, upto_snoc hz.out (by rw [hr.out, t])⟩, by simp [intOf]; omega⟩
        · have t : ¬ btw 1 zs[0] 7 = true := by assumption
          go_ret
          exact ⟨ret_bool (allUpTo_no hlt (by rw [hr.out]; simpa using t)).symm, rfl⟩
      · obtain ⟨b', off', hb', c1⟩ := hc m (by omega)
        cases hb'
        have hr := Lib.hid (risAt_succ (lo := 1) (hi := 7) hlt)
        clear hc
        go_wp2_with (go_at_call 62; refine (isFace_c _ _).mono ?_; rintro e w' ⟨rfl, rfl⟩)
        · have t : zs[m + 1] ≤ zs[m] := by assumption
          go_ret
          exact ⟨ret_bool (allUpTo_no hlt (by rw [hr.out]; simp; omega)).symm, rfl⟩
        · have t : btw 1 zs[m + 1] 7 = true := by assumption
          have t2 : zs[m] < zs[m + 1] := by assumption
          exact ⟨⟨m + 2, by omega, by go_num, upto_snoc hz.out (by rw [hr.out, t]; simp; omega)⟩, by simp [intOf]; omega⟩
        · have t : ¬ btw 1 zs[m + 1] 7 = true := by assumption
          go_ret
          exact ⟨ret_bool (allUpTo_no hlt (by rw [hr.out]; simp [t])).symm, rfl⟩
    · go_wp2
      go_ret
      exact ⟨ret_bool (allUpTo_yes (fun i hi => hz.out i (by omega))).symm, rfl⟩
set_option maxHeartbeats 800000 in
theorem l1Rising_c (v : Value) (zs : List Int) (F : List Nat) (lo hi : Int) (w : World) (h : Sl EInt w v zs F) :
    Calls Try.prog 59 #[v, .int .i64 lo, .int .i64 hi] w fun e w' => e = .returned (.bool (rising lo hi zs)) ∧ Below w.heap.size w w' := by
  obtain ⟨a, cap, rfl⟩ := h.slice
  obtain ⟨-, hl, -⟩ := h.int
  unfold maxLen at hl
  go_enter Try.func59, Try.ntmps59
  go_wp2
  go_loopw [7] (fun i wr => ∃ k : Nat, k ≤ zs.length ∧ i = .int .i64 k ∧ Hid (∀ j, j < k → risAt lo hi zs j = true) ∧ Below w.heap.size w wr) (fun i _ => zs.length - (intOf i).toNat)
  case atStart => exact ⟨0, Nat.zero_le _, rfl, fun j hj => by omega, Below.refl _ _⟩
  case round =>
    obtain ⟨k, hk, rfl, hz, hB⟩ := hrel
    have hc := (h.below (by decide) hB).int.2.2
    by_cases hlt : k < zs.length
    · obtain ⟨b, off, rfl, c0⟩ := hc k hlt
      rcases k with _ | m
      · have hr := Lib.hid (risAt_zero (lo := lo) (hi := hi) hlt)
        clear hc
        simp only [Nat.add_zero] at c0
        cases t : btw lo zs[0] hi
        · go_wp2_with fail
          go_quiet ((go_at_call 48; exact quiet_eq (l1In_c _ _ _ _)))
          go_wp2_with fail
          go_ret
          exact ⟨ret_bool (allUpTo_no hlt (by rw [hr.out, t])).symm, belowDrewN hB _⟩
        · go_wp2_with fail
          go_quiet ((go_at_call 48; exact quiet_eq (l1In_c _ _ _ _)))
          go_wp2_with fail
          exact ⟨⟨1, by omega, by go_num, upto_snoc hz.out (by rw [hr.out, t]), belowDrewN hB _⟩, by simp [intOf]; omega⟩
      · obtain ⟨b', off', hb', c1⟩ := hc m (by omega)
        cases hb'
        have hr := Lib.hid (risAt_succ (lo := lo) (hi := hi) hlt)
        clear hc
        cases t : btw lo zs[m + 1] hi
        · go_wp2_with fail
          go_quiet ((go_at_call 48; exact quiet_eq (l1In_c _ _ _ _)))
          go_wp2_with fail
          go_ret
          exact ⟨ret_bool (allUpTo_no hlt (by rw [hr.out, t]; rfl)).symm, belowDrewN hB _⟩
        · by_cases t2 : zs[m] < zs[m + 1]
          · go_wp2_with fail
            go_quiet ((go_at_call 48; exact quiet_eq (l1In_c _ _ _ _)))
            go_wp2_with fail
            exact ⟨⟨m + 2, by omega, by go_num, upto_snoc hz.out (by rw [hr.out, t]; simpa using t2), belowDrewN hB _⟩, by simp [intOf]; omega⟩
          · have t3 : zs[m + 1] ≤ zs[m] := by omega
            go_wp2_with fail
            go_quiet ((go_at_call 48; exact quiet_eq (l1In_c _ _ _ _)))
            go_wp2_with fail
            go_ret
            exact ⟨ret_bool (allUpTo_no hlt (by rw [hr.out]; simp; omega)).symm, belowDrewN hB _⟩
    · go_wp2
      go_ret
      exact ⟨ret_bool (allUpTo_yes (fun i hi => hz.out i (by omega))).symm, hB⟩
theorem l14Faces_c (v : Value) (zs : List Int) (F : List Nat) (w : World) (h : Sl EInt w v zs F) :
    Calls Try.prog 38 #[v] w fun e w' => e = .returned (.bool (rising 1 7 zs)) ∧ Below w.heap.size w w' := by
  go_enter Try.func38, Try.ntmps38
  go_wp2_with (go_at_call 59; refine (l1Rising_c _ zs F _ _ _ h).mono ?_; rintro e w' ⟨rfl, hb1⟩)
  go_ret
  exact ⟨rfl, hb1⟩
end Go.Proofs.Ytjbfffopbpajiaa
