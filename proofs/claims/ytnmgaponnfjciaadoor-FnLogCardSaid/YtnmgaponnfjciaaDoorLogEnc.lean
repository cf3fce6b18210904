/- Walks: a record's line, the program's and the reference's. -/
import Derived.Test.YtnmgaponnfjciaaDoorLogRec
import Derived.Test.YtnmgaponnfjciaaDoorHeld
import Derived.Test.YtnmgaponnfjciaaDoorLaw2
namespace Go.Proofs.YtnmgaponnfjciaaDoor
open Go.RowKit
theorem app_body (k : Nat) (c r : ByteArray) : bs (Lib.decDigits k) ++ ⟨#[32]⟩ ++ c ++ ⟨#[64]⟩ ++ r = bs (bodyL k c.data.toList r.data.toList) := by
  rw [app_bs (_ ++ _) r, app_list, app_list, app_list, bs_list]; congr 1; simp [bodyL]
theorem app_nl (l : Bs) : bs l ++ ⟨#[10]⟩ = bs (l ++ [10]) := by rw [app_bs, bs_list]
structure GoodB (k : Nat) (c r : ByteArray) : Prop where
  k9 : k ≤ 59
  g : Good c.data.toList r.data.toList
set_option maxHeartbeats 1600000 in
set_option maxRecDepth 100000 in
theorem encodeRecord_c (k : Nat) (c r : ByteArray) (F : List Nat) (w : World) (hk : k ≤ 59) (hg : Good c.data.toList r.data.toList) (hT : IsV ETab w (.agg #[]) () F) :
    Calls Tryd.prog 46 #[.int .i64 (k : Int), .agg #[.string c, .string r]] w fun e w' => e = .returned (.string (bs (lineL k c.data.toList r.data.toList))) ∧ Below w.heap.size w w' := by
  have hb0 := bodyL_len hk hg
  have hm := bodyL_mem (k := k) hg
  have hX := app_body k c r
  have hc1 : c.size ≤ 160 := size_of_list hg.c1
  have hr1 : r.size ≤ 200 := size_of_list hg.r1
  have hD : (bs (Lib.decDigits k)).size ≤ 2 := by rw [bs_size]; exact digit_len 1 _ (by omega)
  have hE : (bs (sealL (bodyL k c.data.toList r.data.toList))).size ≤ 400 := by rw [bs_size]; have := sealL_len (bodyL k c.data.toList r.data.toList); omega
  have hN := Lib.hid (app_nl (sealL (bodyL k c.data.toList r.data.toList)))
  have hI := Lib.hid (fun w hT => Itoa_c k (by omega) F w hT)
  have hA := fun w hT => AppendChecksum_ok (bs (bodyL k c.data.toList r.data.toList)) F w (by rw [bs_size]; omega) (by rw [bs_list]; exact fun b hb => (hm b hb).2) hT
  rw [bs_list, ← hX] at hA
  replace hA := Lib.hid hA
  clear hX hm hb0 hg
  generalize hl : bs (Lib.decDigits k) = D at *
  generalize bs (sealL (bodyL k c.data.toList r.data.toList)) = E at *
  clear hl
  skip
  go_enter Tryd.func46, Tryd.ntmps46
  go_wp2_with fail
  have al : Below w.heap.size w (w.alloc (.cells #[.string c, .string r] 27)) := by
    repeat refine Below.alloc ?_ (by simp <;> omega) _
    exact Below.refl _ _
  have n_R := Row.made w 27 [.string c, .string r]
  have hs_w1 : w.heap.size < (w.alloc (.cells #[.string c, .string r] 27)).heap.size := by simp
  replace hT := hT.below al
  have hB := al
  generalize (w.alloc (.cells #[.string c, .string r] 27)) = w1 at *
  have R := n_R; clear n_R
  clear al
  refine AnyX.start (S := (fun w' => w'.cell? ⟨w.heap.size, 0, none⟩ = some (.string c) ∧ w'.cell? ⟨w.heap.size, 1, none⟩ = some (.string r))) (X := (fun _ => false)) (by kernel_rfl) ?_
  have al : Below w1.heap.size w1 w1.drew := belowDrewN (Below.refl _ _) 1
  have hs_w2 := al.size
  replace R := R.below al
  replace hT := hT.below al
  replace hB := tr hB al (Nat.le_refl _)
  generalize w1.drew = w2 at *
  clear al
  have hS : (fun w' => w'.cell? ⟨w.heap.size, 0, none⟩ = some (.string c) ∧ w'.cell? ⟨w.heap.size, 1, none⟩ = some (.string r)) w2 := ⟨R.cells 0, R.cells 1⟩
  refine AnyX.take (i := 0) (oi := _) (v := ?_) (by rw [List.getElem?_toArray]; rfl) (by kernel_rfl) (by kernel_rfl) (by kernel_rfl) (by kernel_rfl) (by kernel_rfl) (by exact fun _ _ _ h => h) (Or.inl ⟨by rfl, ?_⟩) hS ?_
  rotate_left
  · (intro wS hSw; (try dsimp only at hSw); go_simp; try with_reducible rfl)
  try simp only [Act.put, List.setIfInBounds_toArray, List.set_cons_zero, List.set_cons_succ]
  refine AnyX.take (i := 3) (oi := _) (v := ?_) (by rw [List.getElem?_toArray]; rfl) (by kernel_rfl) (by kernel_rfl) (by kernel_rfl) (by kernel_rfl) (by kernel_rfl) (by exact fun _ _ _ h => h) (Or.inl ⟨by rfl, ?_⟩) hS ?_
  rotate_left
  · (intro wS hSw; (try dsimp only at hSw); go_simp; try with_reducible rfl)
  try simp only [Act.put, List.setIfInBounds_toArray, List.set_cons_zero, List.set_cons_succ]
  refine AnyX.take (i := 4) (oi := _) (v := ?_) (by rw [List.getElem?_toArray]; rfl) (by kernel_rfl) (by kernel_rfl) (by kernel_rfl) (by kernel_rfl) (by kernel_rfl) (by exact fun _ _ _ h => h) (Or.inl ⟨by rfl, ?_⟩) hS ?_
  rotate_left
  · (intro wS hSw; (try dsimp only at hSw); go_simp; try with_reducible rfl)
  try simp only [Act.put, List.setIfInBounds_toArray, List.set_cons_zero, List.set_cons_succ]
  refine AnyX.take (i := 7) (oi := _) (v := ?_) (by rw [List.getElem?_toArray]; rfl) (by kernel_rfl) (by kernel_rfl) (by kernel_rfl) (by kernel_rfl) (by kernel_rfl) (by exact fun _ _ _ h => h) (Or.inl ⟨by rfl, ?_⟩) hS ?_
  rotate_left
  · (intro wS hSw; (try dsimp only at hSw); go_simp; try with_reducible rfl)
  try simp only [Act.put, List.setIfInBounds_toArray, List.set_cons_zero, List.set_cons_succ]
  refine AnyX.take (i := 8) (oi := _) (v := ?_) (by rw [List.getElem?_toArray]; rfl) (by kernel_rfl) (by kernel_rfl) (by kernel_rfl) (by kernel_rfl) (by kernel_rfl) (by exact fun _ _ _ h => h) (Or.inl ⟨by rfl, ?_⟩) hS ?_
  rotate_left
  · (intro wS hSw; (try dsimp only at hSw); go_simp; try with_reducible rfl)
  try simp only [Act.put, List.setIfInBounds_toArray, List.set_cons_zero, List.set_cons_succ]
  refine AnyX.only (i := 1) (o := _) (by kernel_rfl) (by rw [List.getElem?_toArray]; rfl) (fun K hK => ?_)
  go_simp
  go_at_call 67
  refine (hI.out _ hT).mono ?_
  rintro e w3 ⟨rfl, hb⟩
  have hs_w3 := hb.size
  replace R := R.below hb
  replace hT := hT.below hb
  replace hB := tr hB hb (Nat.le_refl _)
  clear hb
  clear hS
  have hS : (fun w' => w'.cell? ⟨w.heap.size, 0, none⟩ = some (.string c) ∧ w'.cell? ⟨w.heap.size, 1, none⟩ = some (.string r)) w3 := ⟨R.cells 0, R.cells 1⟩
  refine hK.out _ _ (fun _ => hS) ?_
  clear hK K
  try simp only [Act.put, List.setIfInBounds_toArray, List.set_cons_zero, List.set_cons_succ]
  refine AnyX.take (i := 2) (oi := _) (v := ?_) (by rw [List.getElem?_toArray]; rfl) (by kernel_rfl) (by kernel_rfl) (by kernel_rfl) (by kernel_rfl) (by kernel_rfl) (by exact fun _ _ _ h => h) (Or.inl ⟨by rfl, ?_⟩) hS ?_
  rotate_left
  · (intro wS hSw; (try dsimp only at hSw); go_simp; rw [if_neg (by simp; omega)]; try with_reducible rfl)
  try simp only [Act.put, List.setIfInBounds_toArray, List.set_cons_zero, List.set_cons_succ]
  refine AnyX.take (i := 5) (oi := _) (v := ?_) (by rw [List.getElem?_toArray]; rfl) (by kernel_rfl) (by kernel_rfl) (by kernel_rfl) (by kernel_rfl) (by kernel_rfl) (by exact fun _ _ _ h => h) (Or.inl ⟨by rfl, ?_⟩) hS ?_
  rotate_left
  · (intro wS hSw; (try dsimp only at hSw); go_simp; rw [if_neg (by simp; omega)]; try with_reducible rfl)
  try simp only [Act.put, List.setIfInBounds_toArray, List.set_cons_zero, List.set_cons_succ]
  refine AnyX.take (i := 6) (oi := _) (v := ?_) (by rw [List.getElem?_toArray]; rfl) (by kernel_rfl) (by kernel_rfl) (by kernel_rfl) (by kernel_rfl) (by kernel_rfl) (by exact fun _ _ _ h => h) (Or.inl ⟨by rfl, ?_⟩) hS ?_
  rotate_left
  · (intro wS hSw; (try dsimp only at hSw); go_simp; rw [if_neg (by simp; omega)]; try with_reducible rfl)
  try simp only [Act.put, List.setIfInBounds_toArray, List.set_cons_zero, List.set_cons_succ]
  refine AnyX.take (i := 9) (oi := _) (v := ?_) (by rw [List.getElem?_toArray]; rfl) (by kernel_rfl) (by kernel_rfl) (by kernel_rfl) (by kernel_rfl) (by kernel_rfl) (by exact fun _ _ _ h => h) (Or.inl ⟨by rfl, ?_⟩) hS ?_
  rotate_left
  · (intro wS hSw; (try dsimp only at hSw); go_simp; rw [if_neg (by simp; omega)]; try with_reducible rfl)
  try simp only [Act.put, List.setIfInBounds_toArray, List.set_cons_zero, List.set_cons_succ]
  refine AnyX.only (i := 10) (o := _) (by kernel_rfl) (by rw [List.getElem?_toArray]; rfl) (fun K hK => ?_)
  go_simp
  go_at_call 66
  refine (hA.out _ hT).mono ?_
  rintro e w4 ⟨rfl, hb⟩
  have hs_w4 := hb.size
  replace R := R.below hb
  replace hT := hT.below hb
  replace hB := tr hB hb (Nat.le_refl _)
  clear hb
  clear hS
  have hS : (fun w' => w'.cell? ⟨w.heap.size, 0, none⟩ = some (.string c) ∧ w'.cell? ⟨w.heap.size, 1, none⟩ = some (.string r)) w4 := ⟨R.cells 0, R.cells 1⟩
  refine hK.out _ _ (fun _ => hS) ?_
  clear hK K
  try simp only [Act.put, List.setIfInBounds_toArray, List.set_cons_zero, List.set_cons_succ]
  refine AnyX.take (i := 11) (oi := _) (v := ?_) (by rw [List.getElem?_toArray]; rfl) (by kernel_rfl) (by kernel_rfl) (by kernel_rfl) (by kernel_rfl) (by kernel_rfl) (by exact fun _ _ _ h => h) (Or.inl ⟨by rfl, ?_⟩) hS ?_
  rotate_left
  · (intro wS hSw; (try dsimp only at hSw); go_simp; try with_reducible rfl)
  try simp only [Act.put, List.setIfInBounds_toArray, List.set_cons_zero, List.set_cons_succ]
  refine AnyX.take (i := 12) (oi := _) (v := ?_) (by rw [List.getElem?_toArray]; rfl) (by kernel_rfl) (by kernel_rfl) (by kernel_rfl) (by kernel_rfl) (by kernel_rfl) (by exact fun _ _ _ h => h) (Or.inl ⟨by rfl, ?_⟩) hS ?_
  rotate_left
  · (intro wS hSw; (try dsimp only at hSw); go_simp; try with_reducible rfl)
  try simp only [Act.put, List.setIfInBounds_toArray, List.set_cons_zero, List.set_cons_succ]
  refine AnyX.take (i := 13) (oi := _) (v := ?_) (by rw [List.getElem?_toArray]; rfl) (by kernel_rfl) (by kernel_rfl) (by kernel_rfl) (by kernel_rfl) (by kernel_rfl) (by exact fun _ _ _ h => h) (Or.inl ⟨by rfl, ?_⟩) hS ?_
  rotate_left
  · (intro wS hSw; (try dsimp only at hSw); go_simp; try with_reducible rfl)
  try simp only [Act.put, List.setIfInBounds_toArray, List.set_cons_zero, List.set_cons_succ]
  refine AnyX.only (i := 14) (o := _) (by kernel_rfl) (by rw [List.getElem?_toArray]; rfl) (fun K hK => ?_)
  try go_simp
  clear hS
  have hS : (fun w' => w'.cell? ⟨w.heap.size, 0, none⟩ = some (.string c) ∧ w'.cell? ⟨w.heap.size, 1, none⟩ = some (.string r)) w4 := ⟨R.cells 0, R.cells 1⟩
  refine hK.out _ _ (fun _ => hS) ?_
  clear hK K
  try simp only [Act.put, List.setIfInBounds_toArray, List.set_cons_zero, List.set_cons_succ]
  refine AnyX.only (i := 15) (o := _) (by kernel_rfl) (by rw [List.getElem?_toArray]; rfl) (fun K hK => ?_)
  try go_simp
  clear hS
  have hS : (fun w' => w'.cell? ⟨w.heap.size, 0, none⟩ = some (.string c) ∧ w'.cell? ⟨w.heap.size, 1, none⟩ = some (.string r)) w4 := ⟨R.cells 0, R.cells 1⟩
  refine hK.out _ _ (fun _ => hS) ?_
  clear hK K
  try simp only [Act.put, List.setIfInBounds_toArray, List.set_cons_zero, List.set_cons_succ]
  refine AnyX.done (by kernel_rfl) ?_ _
  (try clear hS)
  have c_R := R.cells; have f_R := R.frozens
  go_wp2_with fail
  clear c_R f_R
  go_ret
  exact ⟨ret_str hN.out, hB⟩
set_option maxHeartbeats 1600000 in
set_option maxRecDepth 100000 in
theorem l27Line_c (k : Nat) (c r : ByteArray) (w : World) (hk : k ≤ 59) (hg : Good c.data.toList r.data.toList) :
    Calls Tryd.prog 44 #[.int .i64 (k : Int), .agg #[.string c, .string r]] w fun e w' => e = .returned (.string (bs (lineL k c.data.toList r.data.toList))) ∧ Below w.heap.size w w' := by
  have hb0 := bodyL_len hk hg
  have hm := bodyL_mem (k := k) hg
  have hX := app_body k c r
  have hc1 : c.size ≤ 160 := size_of_list hg.c1
  have hr1 : r.size ≤ 200 := size_of_list hg.r1
  have hD : (bs (Lib.decDigits k)).size ≤ 2 := by rw [bs_size]; exact digit_len 1 _ (by omega)
  have hE : (bs (sealL (bodyL k c.data.toList r.data.toList))).size ≤ 400 := by rw [bs_size]; have := sealL_len (bodyL k c.data.toList r.data.toList); omega
  have hN := Lib.hid (app_nl (sealL (bodyL k c.data.toList r.data.toList)))
  have hI := Lib.hid (fun w => l1Num_c 1 k w (by omega) (by omega))
  have hA := fun w => l1Seal_c (bs (bodyL k c.data.toList r.data.toList)) w (by rw [bs_size]; omega)
  rw [bs_list, ← hX] at hA
  replace hA := Lib.hid hA
  clear hX hm hb0 hg
  generalize hl : bs (Lib.decDigits k) = D at *
  generalize bs (sealL (bodyL k c.data.toList r.data.toList)) = E at *
  clear hl
  skip
  go_enter Tryd.func44, Tryd.ntmps44
  go_wp2_with fail
  have al : Below w.heap.size w (w.alloc (.cells #[.string c, .string r] 27)) := by
    repeat refine Below.alloc ?_ (by simp <;> omega) _
    exact Below.refl _ _
  have n_R := Row.made w 27 [.string c, .string r]
  have hs_w1 : w.heap.size < (w.alloc (.cells #[.string c, .string r] 27)).heap.size := by simp
  have hB := al
  generalize (w.alloc (.cells #[.string c, .string r] 27)) = w1 at *
  have R := n_R; clear n_R
  clear al
  refine AnyX.start (S := (fun w' => w'.cell? ⟨w.heap.size, 0, none⟩ = some (.string c) ∧ w'.cell? ⟨w.heap.size, 1, none⟩ = some (.string r))) (X := (fun _ => false)) (by kernel_rfl) ?_
  have al : Below w1.heap.size w1 w1.drew := belowDrewN (Below.refl _ _) 1
  have hs_w2 := al.size
  replace R := R.below al
  replace hB := tr hB al (Nat.le_refl _)
  generalize w1.drew = w2 at *
  clear al
  have hS : (fun w' => w'.cell? ⟨w.heap.size, 0, none⟩ = some (.string c) ∧ w'.cell? ⟨w.heap.size, 1, none⟩ = some (.string r)) w2 := ⟨R.cells 0, R.cells 1⟩
  refine AnyX.take (i := 0) (oi := _) (v := ?_) (by rw [List.getElem?_toArray]; rfl) (by kernel_rfl) (by kernel_rfl) (by kernel_rfl) (by kernel_rfl) (by kernel_rfl) (by exact fun _ _ _ h => h) (Or.inl ⟨by rfl, ?_⟩) hS ?_
  rotate_left
  · (intro wS hSw; (try dsimp only at hSw); go_simp; try with_reducible rfl)
  try simp only [Act.put, List.setIfInBounds_toArray, List.set_cons_zero, List.set_cons_succ]
  refine AnyX.take (i := 3) (oi := _) (v := ?_) (by rw [List.getElem?_toArray]; rfl) (by kernel_rfl) (by kernel_rfl) (by kernel_rfl) (by kernel_rfl) (by kernel_rfl) (by exact fun _ _ _ h => h) (Or.inl ⟨by rfl, ?_⟩) hS ?_
  rotate_left
  · (intro wS hSw; (try dsimp only at hSw); go_simp; try with_reducible rfl)
  try simp only [Act.put, List.setIfInBounds_toArray, List.set_cons_zero, List.set_cons_succ]
  refine AnyX.take (i := 4) (oi := _) (v := ?_) (by rw [List.getElem?_toArray]; rfl) (by kernel_rfl) (by kernel_rfl) (by kernel_rfl) (by kernel_rfl) (by kernel_rfl) (by exact fun _ _ _ h => h) (Or.inl ⟨by rfl, ?_⟩) hS ?_
  rotate_left
  · (intro wS hSw; (try dsimp only at hSw); go_simp; try with_reducible rfl)
  try simp only [Act.put, List.setIfInBounds_toArray, List.set_cons_zero, List.set_cons_succ]
  refine AnyX.take (i := 7) (oi := _) (v := ?_) (by rw [List.getElem?_toArray]; rfl) (by kernel_rfl) (by kernel_rfl) (by kernel_rfl) (by kernel_rfl) (by kernel_rfl) (by exact fun _ _ _ h => h) (Or.inl ⟨by rfl, ?_⟩) hS ?_
  rotate_left
  · (intro wS hSw; (try dsimp only at hSw); go_simp; try with_reducible rfl)
  try simp only [Act.put, List.setIfInBounds_toArray, List.set_cons_zero, List.set_cons_succ]
  refine AnyX.take (i := 8) (oi := _) (v := ?_) (by rw [List.getElem?_toArray]; rfl) (by kernel_rfl) (by kernel_rfl) (by kernel_rfl) (by kernel_rfl) (by kernel_rfl) (by exact fun _ _ _ h => h) (Or.inl ⟨by rfl, ?_⟩) hS ?_
  rotate_left
  · (intro wS hSw; (try dsimp only at hSw); go_simp; try with_reducible rfl)
  try simp only [Act.put, List.setIfInBounds_toArray, List.set_cons_zero, List.set_cons_succ]
  refine AnyX.only (i := 1) (o := _) (by kernel_rfl) (by rw [List.getElem?_toArray]; rfl) (fun K hK => ?_)
  go_simp
  go_at_call 65
  refine (hI.out _).mono ?_
  rintro e w3 ⟨rfl, j, hj⟩
  have hb : Below w2.heap.size w2 w3 := by rw [hj]; exact belowDrewN (Below.refl _ _) _
  clear hj
  have hs_w3 := hb.size
  replace R := R.below hb
  replace hB := tr hB hb (Nat.le_refl _)
  clear hb
  clear hS
  have hS : (fun w' => w'.cell? ⟨w.heap.size, 0, none⟩ = some (.string c) ∧ w'.cell? ⟨w.heap.size, 1, none⟩ = some (.string r)) w3 := ⟨R.cells 0, R.cells 1⟩
  refine hK.out _ _ (fun _ => hS) ?_
  clear hK K
  try simp only [Act.put, List.setIfInBounds_toArray, List.set_cons_zero, List.set_cons_succ]
  refine AnyX.take (i := 2) (oi := _) (v := ?_) (by rw [List.getElem?_toArray]; rfl) (by kernel_rfl) (by kernel_rfl) (by kernel_rfl) (by kernel_rfl) (by kernel_rfl) (by exact fun _ _ _ h => h) (Or.inl ⟨by rfl, ?_⟩) hS ?_
  rotate_left
  · (intro wS hSw; (try dsimp only at hSw); go_simp; rw [if_neg (by simp; omega)]; try with_reducible rfl)
  try simp only [Act.put, List.setIfInBounds_toArray, List.set_cons_zero, List.set_cons_succ]
  refine AnyX.take (i := 5) (oi := _) (v := ?_) (by rw [List.getElem?_toArray]; rfl) (by kernel_rfl) (by kernel_rfl) (by kernel_rfl) (by kernel_rfl) (by kernel_rfl) (by exact fun _ _ _ h => h) (Or.inl ⟨by rfl, ?_⟩) hS ?_
  rotate_left
  · (intro wS hSw; (try dsimp only at hSw); go_simp; rw [if_neg (by simp; omega)]; try with_reducible rfl)
  try simp only [Act.put, List.setIfInBounds_toArray, List.set_cons_zero, List.set_cons_succ]
  refine AnyX.take (i := 6) (oi := _) (v := ?_) (by rw [List.getElem?_toArray]; rfl) (by kernel_rfl) (by kernel_rfl) (by kernel_rfl) (by kernel_rfl) (by kernel_rfl) (by exact fun _ _ _ h => h) (Or.inl ⟨by rfl, ?_⟩) hS ?_
  rotate_left
  · (intro wS hSw; (try dsimp only at hSw); go_simp; rw [if_neg (by simp; omega)]; try with_reducible rfl)
  try simp only [Act.put, List.setIfInBounds_toArray, List.set_cons_zero, List.set_cons_succ]
  refine AnyX.take (i := 9) (oi := _) (v := ?_) (by rw [List.getElem?_toArray]; rfl) (by kernel_rfl) (by kernel_rfl) (by kernel_rfl) (by kernel_rfl) (by kernel_rfl) (by exact fun _ _ _ h => h) (Or.inl ⟨by rfl, ?_⟩) hS ?_
  rotate_left
  · (intro wS hSw; (try dsimp only at hSw); go_simp; rw [if_neg (by simp; omega)]; try with_reducible rfl)
  try simp only [Act.put, List.setIfInBounds_toArray, List.set_cons_zero, List.set_cons_succ]
  refine AnyX.only (i := 10) (o := _) (by kernel_rfl) (by rw [List.getElem?_toArray]; rfl) (fun K hK => ?_)
  go_simp
  go_at_call 64
  refine (hA.out _).mono ?_
  rintro e w4 ⟨rfl, j, hj⟩
  have hb : Below w3.heap.size w3 w4 := by rw [hj]; exact belowDrewN (Below.refl _ _) _
  clear hj
  have hs_w4 := hb.size
  replace R := R.below hb
  replace hB := tr hB hb (Nat.le_refl _)
  clear hb
  clear hS
  have hS : (fun w' => w'.cell? ⟨w.heap.size, 0, none⟩ = some (.string c) ∧ w'.cell? ⟨w.heap.size, 1, none⟩ = some (.string r)) w4 := ⟨R.cells 0, R.cells 1⟩
  refine hK.out _ _ (fun _ => hS) ?_
  clear hK K
  try simp only [Act.put, List.setIfInBounds_toArray, List.set_cons_zero, List.set_cons_succ]
  refine AnyX.take (i := 11) (oi := _) (v := ?_) (by rw [List.getElem?_toArray]; rfl) (by kernel_rfl) (by kernel_rfl) (by kernel_rfl) (by kernel_rfl) (by kernel_rfl) (by exact fun _ _ _ h => h) (Or.inl ⟨by rfl, ?_⟩) hS ?_
  rotate_left
  · (intro wS hSw; (try dsimp only at hSw); go_simp; rw [if_neg (by simp; omega)]; try with_reducible rfl)
  try simp only [Act.put, List.setIfInBounds_toArray, List.set_cons_zero, List.set_cons_succ]
  refine AnyX.only (i := 12) (o := _) (by kernel_rfl) (by rw [List.getElem?_toArray]; rfl) (fun K hK => ?_)
  try go_simp
  clear hS
  have hS : (fun w' => w'.cell? ⟨w.heap.size, 0, none⟩ = some (.string c) ∧ w'.cell? ⟨w.heap.size, 1, none⟩ = some (.string r)) w4 := ⟨R.cells 0, R.cells 1⟩
  refine hK.out _ _ (fun _ => hS) ?_
  clear hK K
  try simp only [Act.put, List.setIfInBounds_toArray, List.set_cons_zero, List.set_cons_succ]
  refine AnyX.done (by kernel_rfl) ?_ _
  (try clear hS)
  have c_R := R.cells; have f_R := R.frozens
  go_wp2_with fail
  clear c_R f_R
  go_ret
  exact ⟨ret_str hN.out, hB⟩
end Go.Proofs.YtnmgaponnfjciaaDoor
