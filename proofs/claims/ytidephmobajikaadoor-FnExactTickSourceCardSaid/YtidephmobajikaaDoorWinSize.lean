/- Walks: ResizeWindow, the program's and the reference's. -/
import Derived.Test.YtidephmobajikaaDoorWinDrop
namespace Go.Proofs.YtidephmobajikaaDoor
open Go.RowKit
theorem l1Most_c (a b : Int) (w : World) : Calls Tryd.prog 121 #[.int .i64 a, .int .i64 b] w fun e w' => e = .returned (.int .i64 (max a b)) ∧ w = w' := by
  by_cases h : b < a
  · go_enter Tryd.func121, Tryd.ntmps121
    go_wp2
    go_ret
    exact ⟨ret_int (by omega), rfl⟩
  · go_enter Tryd.func121, Tryd.ntmps121
    go_wp2
    go_ret
    exact ⟨ret_int (by omega), rfl⟩
def okResizeWindow (x : SendWindow) (n : Int) : Bool := goodWin x && btw 1 n 6
/-- how many items go -/
def tooMany (x : SendWindow) (n : Int) : Nat := (max 0 ((x.items.length : Int) - n)).toNat
def resResizeWindow (x : SendWindow) (n : Int) : SendWindow × Bool := if okResizeWindow x n then (⟨aft x.trail (tooMany x n), n, x.items.drop (tooMany x n)⟩, true) else (⟨0, 0, []⟩, false)
def PS_ResizeWindow : SendWindow × Bool → World → Ending → World → Prop := fun (r0, r1) w e w' => ∃ u0 G0, e = .returned (.tuple #[u0, .bool r1]) ∧ IsV ESendWindow w' u0 r0 G0 ∧ Below w.heap.size w w'
def PI_ResizeWindow : SendWindow × Bool → World → Ending → World → Prop := fun (r0, r1) w e w' => ∃ u0 G0, e = .returned (.tuple #[u0, .bool r1]) ∧ IsV OSendWindow w' u0 r0 G0 ∧ (G0).Nodup ∧ (∀ b ∈ G0, w.heap.size ≤ b) ∧ Below w.heap.size w w'
set_option maxHeartbeats 3200000 in
theorem specResizeWindow_c (v0 : Value) (x0 : SendWindow) (F0 : List Nat) (x1 : Int) (w : World) (h0 : IsV ESendWindow w v0 x0 F0) :
    Calls Tryd.prog 35 #[v0, .int .i64 x1] w (PS_ResizeWindow (resResizeWindow x0 x1) w) := by
  have A0 := h0
  have lA0 := h0.lt
  obtain ⟨_, rfl, v0_1, rfl, h0_1⟩ := h0
  obtain ⟨a0_1, c0_1, rfl⟩ := h0_1.slice
  clear h0_1
  go_enter Tryd.func35, Tryd.ntmps35
  go_wp2_with fail
  have al : Below w.heap.size w ((w.alloc (.cells #[.int .i64 x0.trail, .int .i64 x0.size, .slice a0_1 x0.items.length c0_1] 26)).alloc (.cells #[.int .i64 0, .int .i64 0, .slice none 0 0] 26)) := by
    repeat refine Below.alloc ?_ (by simp <;> omega) _
    exact Below.refl _ _
  have n_R0 : Row ((w.alloc (.cells #[.int .i64 x0.trail, .int .i64 x0.size, .slice a0_1 x0.items.length c0_1] 26)).alloc (.cells #[.int .i64 0, .int .i64 0, .slice none 0 0] 26)) (w.heap.size) 26 [.int .i64 x0.trail, .int .i64 x0.size, .slice a0_1 x0.items.length c0_1] := by simp [row_alloc] <;> omega
  have n_RZ : Row ((w.alloc (.cells #[.int .i64 x0.trail, .int .i64 x0.size, .slice a0_1 x0.items.length c0_1] 26)).alloc (.cells #[.int .i64 0, .int .i64 0, .slice none 0 0] 26)) (w.heap.size + 1) 26 [.int .i64 0, .int .i64 0, .slice none 0 0] := by simp [row_alloc] <;> omega
  have hs_w1 : w.heap.size + 1 < ((w.alloc (.cells #[.int .i64 x0.trail, .int .i64 x0.size, .slice a0_1 x0.items.length c0_1] 26)).alloc (.cells #[.int .i64 0, .int .i64 0, .slice none 0 0] 26)).heap.size := by simp <;> omega
  replace A0 := A0.below al
  have hB := al
  generalize ((w.alloc (.cells #[.int .i64 x0.trail, .int .i64 x0.size, .slice a0_1 x0.items.length c0_1] 26)).alloc (.cells #[.int .i64 0, .int .i64 0, .slice none 0 0] 26)) = w1 at *
  have R0 := n_R0; clear n_R0
  have RZ := n_RZ; clear n_RZ
  clear al
  refine (l9Good_c _ x0 F0 _ A0).mono ?_
  rintro e w2 ⟨rfl, hb⟩
  have hs_w2 := hb.size
  replace R0 := R0.below hb
  replace RZ := RZ.below hb
  replace A0 := A0.below hb
  replace hB := tr hB hb (Nat.le_refl _)
  clear hb
  cases g1 : goodWin x0
  · have hr : resResizeWindow x0 x1 = (⟨0, 0, []⟩, false) := by unfold resResizeWindow okResizeWindow; rw [g1]; simp
    replace hr := Lib.hid hr
    have c_R0 := R0.cells; have f_R0 := R0.frozens
    have c_RZ := RZ.cells; have f_RZ := RZ.frozens
    go_wp2_with fail
    refine bodyPost_ret (v := .tuple #[.agg #[.int .i64 0, .int .i64 0, .slice none 0 0], .bool false]) ?_ rfl ?_
    · simp [results, Tryd.results35, go_sem, c_RZ, f_RZ]
    · rw [hr.out]
      refine ⟨_, [], rfl, ⟨_, rfl, _, rfl, none, 0, rfl, by simp, .inl ⟨rfl, rfl, fun _ => rfl⟩⟩, ?_⟩
      repeat refine Below.setCell ?_ (by simp <;> omega) _
      exact hB
  have gg := goodWin_iff.1 g1
  obtain ⟨⟨t0, t1⟩, ⟨z0, z1⟩, hlen, -⟩ := gg
  have c_R0 := R0.cells; have f_R0 := R0.frozens
  have c_RZ := RZ.cells; have f_RZ := RZ.frozens
  go_wp2_with fail
  clear c_R0 f_R0 c_RZ f_RZ
  refine (l1In_c _ _ _ _).mono ?_
  rintro e w' ⟨rfl, rfl⟩
  cases g2 : btw 1 x1 6
  · have hr : resResizeWindow x0 x1 = (⟨0, 0, []⟩, false) := by unfold resResizeWindow okResizeWindow; rw [g2]; simp
    replace hr := Lib.hid hr
    have c_R0 := R0.cells; have f_R0 := R0.frozens
    have c_RZ := RZ.cells; have f_RZ := RZ.frozens
    go_wp2_with fail
    refine bodyPost_ret (v := .tuple #[.agg #[.int .i64 0, .int .i64 0, .slice none 0 0], .bool false]) ?_ rfl ?_
    · simp [results, Tryd.results35, go_sem, c_RZ, f_RZ]
    · rw [hr.out]
      refine ⟨_, [], rfl, ⟨_, rfl, _, rfl, none, 0, rfl, by simp, .inl ⟨rfl, rfl, fun _ => rfl⟩⟩, ?_⟩
      repeat refine Below.setCell ?_ (by simp <;> omega) _
      exact hB
  have gn : 1 ≤ x1 ∧ x1 ≤ 6 := by unfold btw at g2; simpa using g2
  obtain ⟨k, hk⟩ : ∃ k : Nat, k = tooMany x0 x1 := ⟨_, rfl⟩
  have hr : resResizeWindow x0 x1 = (⟨aft x0.trail k, x1, x0.items.drop k⟩, true) := by
    unfold resResizeWindow okResizeWindow
    rw [g1, g2, hk]; rfl
  have hk1 : max 0 ((x0.items.length : Int) - x1) = (k : Int) := by rw [hk]; unfold tooMany; omega
  have hk2 : k ≤ x0.items.length := by omega
  have hk3 : max 0 (IntKind.i64.wrap ((x0.items.length : Int) - x1)) = (k : Int) := by rw [IntKind.wrap_i64, ← hk1]; omega
  replace hr := Lib.hid hr
  replace hk1 := Lib.hid hk1
  replace hk3 := Lib.hid hk3
  clear hk
  have c_R0 := R0.cells; have f_R0 := R0.frozens
  have c_RZ := RZ.cells; have f_RZ := RZ.frozens
  go_wp2_with fail
  clear c_R0 f_R0 c_RZ f_RZ
  rename_i K0 hK0
  refine AnyX.start (S := (fun w' => w'.cell? ⟨w.heap.size, 0, none⟩ = some (.int .i64 x0.trail) ∧ w'.cell? ⟨w.heap.size, 1, none⟩ = some (.int .i64 x0.size) ∧ w'.cell? ⟨w.heap.size, 2, none⟩ = some (.slice a0_1 x0.items.length c0_1))) (X := (fun i => i == 9)) (by kernel_rfl) ?_
  have al : Below w2.heap.size w2 w2.drew := belowDrewN (Below.refl _ _) 1
  have hs_w3 := al.size
  replace R0 := R0.below al
  replace RZ := RZ.below al
  replace A0 := A0.below al
  replace hB := tr hB al (Nat.le_refl _)
  generalize w2.drew = w3 at *
  clear al
  have hS : (fun w' => w'.cell? ⟨w.heap.size, 0, none⟩ = some (.int .i64 x0.trail) ∧ w'.cell? ⟨w.heap.size, 1, none⟩ = some (.int .i64 x0.size) ∧ w'.cell? ⟨w.heap.size, 2, none⟩ = some (.slice a0_1 x0.items.length c0_1)) w3 := ⟨R0.cells 0, R0.cells 1, R0.cells 2⟩
  refine AnyX.take (i := 0) (oi := _) (v := ?_) (by rw [List.getElem?_toArray]; rfl) (by kernel_rfl) (by kernel_rfl) (by kernel_rfl) (by kernel_rfl) (by kernel_rfl) (by exact fun _ _ _ h => h) (Or.inl ⟨by rfl, ?_⟩) hS ?_
  rotate_left
  · (intro wS hSw; (try dsimp only at hSw); go_simp; try with_reducible rfl)
  try simp only [Act.put, List.setIfInBounds_toArray, List.set_cons_zero, List.set_cons_succ]
  refine AnyX.take (i := 1) (oi := _) (v := ?_) (by rw [List.getElem?_toArray]; rfl) (by kernel_rfl) (by kernel_rfl) (by kernel_rfl) (by kernel_rfl) (by kernel_rfl) (by exact fun _ _ _ h => h) (Or.inl ⟨by rfl, ?_⟩) hS ?_
  rotate_left
  · (intro wS hSw; (try dsimp only at hSw); go_simp; try with_reducible rfl)
  try simp only [Act.put, List.setIfInBounds_toArray, List.set_cons_zero, List.set_cons_succ]
  refine AnyX.take (i := 2) (oi := _) (v := ?_) (by rw [List.getElem?_toArray]; rfl) (by kernel_rfl) (by kernel_rfl) (by kernel_rfl) (by kernel_rfl) (by kernel_rfl) (by exact fun _ _ _ h => h) (Or.inl ⟨by rfl, ?_⟩) hS ?_
  rotate_left
  · (intro wS hSw; (try dsimp only at hSw); go_simp; try with_reducible rfl)
  try simp only [Act.put, List.setIfInBounds_toArray, List.set_cons_zero, List.set_cons_succ]
  refine AnyX.take (i := 3) (oi := _) (v := ?_) (by rw [List.getElem?_toArray]; rfl) (by kernel_rfl) (by kernel_rfl) (by kernel_rfl) (by kernel_rfl) (by kernel_rfl) (by exact fun _ _ _ h => h) (Or.inl ⟨by rfl, ?_⟩) hS ?_
  rotate_left
  · (intro wS hSw; (try dsimp only at hSw); go_simp; try with_reducible rfl)
  try simp only [Act.put, List.setIfInBounds_toArray, List.set_cons_zero, List.set_cons_succ]
  refine AnyX.take (i := 4) (oi := _) (v := ?_) (by rw [List.getElem?_toArray]; rfl) (by kernel_rfl) (by kernel_rfl) (by kernel_rfl) (by kernel_rfl) (by kernel_rfl) (by exact fun _ _ _ h => h) (Or.inl ⟨by rfl, ?_⟩) hS ?_
  rotate_left
  · (intro wS hSw; (try dsimp only at hSw); go_simp; try with_reducible rfl)
  try simp only [Act.put, List.setIfInBounds_toArray, List.set_cons_zero, List.set_cons_succ]
  refine AnyX.take (i := 5) (oi := _) (v := ?_) (by rw [List.getElem?_toArray]; rfl) (by kernel_rfl) (by kernel_rfl) (by kernel_rfl) (by kernel_rfl) (by kernel_rfl) (by exact fun _ _ _ h => h) (Or.inl ⟨by rfl, ?_⟩) hS ?_
  rotate_left
  · (intro wS hSw; (try dsimp only at hSw); go_simp; try with_reducible rfl)
  try simp only [Act.put, List.setIfInBounds_toArray, List.set_cons_zero, List.set_cons_succ]
  refine AnyX.two (i := 6) (j := 8) (oi := _) (oj := _) (by kernel_rfl) (by rw [List.getElem?_toArray]; rfl) (by rw [List.getElem?_toArray]; rfl) (fun K hK => ?_) (fun K hK => ?_)
  · go_simp
    go_at_call 121
    refine (l1Most_c _ _ _).mono ?_
    rintro e w' ⟨rfl, rfl⟩
    rw [hk3.out]
    clear hS
    have hS : (fun w' => w'.cell? ⟨w.heap.size, 0, none⟩ = some (.int .i64 x0.trail) ∧ w'.cell? ⟨w.heap.size, 1, none⟩ = some (.int .i64 x0.size) ∧ w'.cell? ⟨w.heap.size, 2, none⟩ = some (.slice a0_1 x0.items.length c0_1)) w3 := ⟨R0.cells 0, R0.cells 1, R0.cells 2⟩
    refine hK.out _ _ (fun _ => hS) ?_
    clear hK K
    try simp only [Act.put, List.setIfInBounds_toArray, List.set_cons_zero, List.set_cons_succ]
    refine AnyX.two (i := 7) (j := 8) (oi := _) (oj := _) (by kernel_rfl) (by rw [List.getElem?_toArray]; rfl) (by rw [List.getElem?_toArray]; rfl) (fun K hK => ?_) (fun K hK => ?_)
    · go_simp
      go_at_call 118
      refine (l9Drop_c _ x0 F0 k _ A0 hk2 (by omega) (isSer_iff.2 ⟨t0, t1⟩)).mono ?_
      rintro e w4 ⟨_, F3, rfl, ⟨_, rfl, v3, rfl, o3⟩, n3, g3, hb⟩
      have hs_w4 := hb.size
      replace R0 := R0.below hb
      replace RZ := RZ.below hb
      replace A0 := A0.below hb
      replace hB := tr hB hb (Nat.le_refl _)
      clear hb
      have l3 := o3.lt
      obtain ⟨a3, c3, rfl⟩ := o3.slice
      obtain ⟨F4, hF4, s3⟩ := o3.sl (Weak.refl _)
      clear o3
      clear hS
      have hS : (fun w' => w'.cell? ⟨w.heap.size, 0, none⟩ = some (.int .i64 x0.trail) ∧ w'.cell? ⟨w.heap.size, 1, none⟩ = some (.int .i64 x0.size) ∧ w'.cell? ⟨w.heap.size, 2, none⟩ = some (.slice a0_1 x0.items.length c0_1)) w4 := ⟨R0.cells 0, R0.cells 1, R0.cells 2⟩
      refine hK.out _ _ (fun _ => hS) ?_
      clear hK K
      try simp only [Act.put, List.setIfInBounds_toArray, List.set_cons_zero, List.set_cons_succ]
      refine AnyX.only (i := 8) (o := _) (by kernel_rfl) (by rw [List.getElem?_toArray]; rfl) (fun K hK => ?_)
      go_simp
      have al : Below w4.heap.size w4 (w4.alloc (.cells #[.int .i64 0, .int .i64 0, .slice none 0 0] 26)) := by
        repeat refine Below.alloc ?_ (by simp <;> omega) _
        exact Below.refl _ _
      have n_RO := Row.made w4 26 [.int .i64 0, .int .i64 0, .slice none 0 0]
      have hs_w5 : w4.heap.size < (w4.alloc (.cells #[.int .i64 0, .int .i64 0, .slice none 0 0] 26)).heap.size := by simp
      replace R0 := R0.below al
      replace RZ := RZ.below al
      replace A0 := A0.below al
      replace s3 := s3.below (by decide) al
      replace hB := tr hB al (Nat.le_refl _)
      generalize (w4.alloc (.cells #[.int .i64 0, .int .i64 0, .slice none 0 0] 26)) = w5 at *
      have RO := n_RO; clear n_RO
      clear al
      clear hS
      have hS : (fun w' => w'.cell? ⟨w.heap.size, 0, none⟩ = some (.int .i64 x0.trail) ∧ w'.cell? ⟨w.heap.size, 1, none⟩ = some (.int .i64 x0.size) ∧ w'.cell? ⟨w.heap.size, 2, none⟩ = some (.slice a0_1 x0.items.length c0_1)) w5 := ⟨R0.cells 0, R0.cells 1, R0.cells 2⟩
      refine hK.out _ _ (fun _ => hS) ?_
      clear hK K
      try simp only [Act.put, List.setIfInBounds_toArray, List.set_cons_zero, List.set_cons_succ]
      refine AnyX.only (i := 9) (o := _) (by kernel_rfl) (by rw [List.getElem?_toArray]; rfl) (fun K hK => ?_)
      have c_R0 := R0.cells; have f_R0 := R0.frozens
      have c_RZ := RZ.cells; have f_RZ := RZ.frozens
      have c_RO := RO.cells; have f_RO := RO.frozens
      go_simp
      clear c_R0 f_R0 c_RZ f_RZ c_RO f_RO
      refine hK.out _ _ (fun h => by cases h) ?_
      clear hK K
      try simp only [Act.put, List.setIfInBounds_toArray, List.set_cons_zero, List.set_cons_succ]
      refine AnyX.done (by kernel_rfl) ?_ _
      (try clear hS)
      refine hK0 _ _ ?_
      clear hK0 K0
      have hsR := RO.lt
      replace s3 : Sl EStr w5 (.slice a3 (x0.items.length - k) c3) (x0.items.drop k) F4 := by
        have := s3
        simpa using this
      have n_R0 := R0.keep (show (((w5.setCell ⟨w4.heap.size, 0, none⟩ (.int .i64 (aft x0.trail k))).setCell ⟨w4.heap.size, 1, none⟩ (.int .i64 x0.size)).setCell ⟨w4.heap.size, 2, none⟩ (.slice a3 (x0.items.length - k) c3)).heap[_]? = _ from by repeat rw [Below.heap_setCell _ _ _ _ (by simp <;> omega)])
      have n_RZ := RZ.keep (show (((w5.setCell ⟨w4.heap.size, 0, none⟩ (.int .i64 (aft x0.trail k))).setCell ⟨w4.heap.size, 1, none⟩ (.int .i64 x0.size)).setCell ⟨w4.heap.size, 2, none⟩ (.slice a3 (x0.items.length - k) c3)).heap[_]? = _ from by repeat rw [Below.heap_setCell _ _ _ _ (by simp <;> omega)])
      have n_RO : Row (((w5.setCell ⟨w4.heap.size, 0, none⟩ (.int .i64 (aft x0.trail k))).setCell ⟨w4.heap.size, 1, none⟩ (.int .i64 x0.size)).setCell ⟨w4.heap.size, 2, none⟩ (.slice a3 (x0.items.length - k) c3)) (w4.heap.size) 26 [.int .i64 (aft x0.trail k), .int .i64 x0.size, .slice a3 (x0.items.length - k) c3] := by simpa using (((RO.set 0 (.int .i64 (aft x0.trail k))).set 1 (.int .i64 x0.size)).set 2 (.slice a3 (x0.items.length - k) c3))
      clear A0
      have n_s3 := s3.frame (w' := (((w5.setCell ⟨w4.heap.size, 0, none⟩ (.int .i64 (aft x0.trail k))).setCell ⟨w4.heap.size, 1, none⟩ (.int .i64 x0.size)).setCell ⟨w4.heap.size, 2, none⟩ (.slice a3 (x0.items.length - k) c3))) fun b hb => by
        have h6 := g3 b (hF4 b hb)
        have h7 := l3 b (hF4 b hb)
        repeat rw [Below.heap_setCell _ _ _ _ (by simp <;> omega)]
      have n_hB : Below w.heap.size w (((w5.setCell ⟨w4.heap.size, 0, none⟩ (.int .i64 (aft x0.trail k))).setCell ⟨w4.heap.size, 1, none⟩ (.int .i64 x0.size)).setCell ⟨w4.heap.size, 2, none⟩ (.slice a3 (x0.items.length - k) c3)) := by
        repeat refine Below.setCell ?_ (by simp <;> omega) _
        exact hB
      clear hB R0 RZ RO s3
      have hs_w6 : w5.heap.size ≤ (((w5.setCell ⟨w4.heap.size, 0, none⟩ (.int .i64 (aft x0.trail k))).setCell ⟨w4.heap.size, 1, none⟩ (.int .i64 x0.size)).setCell ⟨w4.heap.size, 2, none⟩ (.slice a3 (x0.items.length - k) c3)).heap.size := by simp
      generalize (((w5.setCell ⟨w4.heap.size, 0, none⟩ (.int .i64 (aft x0.trail k))).setCell ⟨w4.heap.size, 1, none⟩ (.int .i64 x0.size)).setCell ⟨w4.heap.size, 2, none⟩ (.slice a3 (x0.items.length - k) c3)) = w6 at *
      have hB := n_hB; clear n_hB
      have R0 := n_R0; clear n_R0
      have RZ := n_RZ; clear n_RZ
      have RO := n_RO; clear n_RO
      have s3 := n_s3; clear n_s3
      replace s3 := Lib.hid s3
      have c_R0 := R0.cells; have f_R0 := R0.frozens
      have c_RZ := RZ.cells; have f_RZ := RZ.frozens
      have c_RO := RO.cells; have f_RO := RO.frozens
      go_wp2_with fail
      refine bodyPost_ret (v := .tuple #[.agg #[.int .i64 (aft x0.trail k), .int .i64 x1, .slice a3 (x0.items.length - k) c3], .bool true]) ?_ rfl ?_
      · simp [results, Tryd.results35, go_sem, c_RZ, f_RZ, c_RO, f_RO]
      · rw [hr.out]
        refine ⟨_, F4, rfl, ⟨_, rfl, _, rfl, ?_⟩, ?_⟩
        · have h5 := s3.out
          refine h5.frame fun b hb => ?_
          have h6 := g3 b (hF4 b hb)
          have h7 := l3 b (hF4 b hb)
          repeat rw [Below.heap_setCell _ _ _ _ (by simp; omega)]
        · repeat refine Below.setCell ?_ (by simp <;> omega) _
          exact hB
    · go_simp
      have al : Below w3.heap.size w3 (w3.alloc (.cells #[.int .i64 0, .int .i64 0, .slice none 0 0] 26)) := by
        repeat refine Below.alloc ?_ (by simp <;> omega) _
        exact Below.refl _ _
      have n_RO := Row.made w3 26 [.int .i64 0, .int .i64 0, .slice none 0 0]
      have hs_w7 : w3.heap.size < (w3.alloc (.cells #[.int .i64 0, .int .i64 0, .slice none 0 0] 26)).heap.size := by simp
      replace R0 := R0.below al
      replace RZ := RZ.below al
      replace A0 := A0.below al
      replace hB := tr hB al (Nat.le_refl _)
      generalize (w3.alloc (.cells #[.int .i64 0, .int .i64 0, .slice none 0 0] 26)) = w7 at *
      have RO := n_RO; clear n_RO
      clear al
      clear hS
      have hS : (fun w' => w'.cell? ⟨w.heap.size, 0, none⟩ = some (.int .i64 x0.trail) ∧ w'.cell? ⟨w.heap.size, 1, none⟩ = some (.int .i64 x0.size) ∧ w'.cell? ⟨w.heap.size, 2, none⟩ = some (.slice a0_1 x0.items.length c0_1)) w7 := ⟨R0.cells 0, R0.cells 1, R0.cells 2⟩
      refine hK.out _ _ (fun _ => hS) ?_
      clear hK K
      try simp only [Act.put, List.setIfInBounds_toArray, List.set_cons_zero, List.set_cons_succ]
      refine AnyX.only (i := 7) (o := _) (by kernel_rfl) (by rw [List.getElem?_toArray]; rfl) (fun K hK => ?_)
      go_simp
      go_at_call 118
      refine (l9Drop_c _ x0 F0 k _ A0 hk2 (by omega) (isSer_iff.2 ⟨t0, t1⟩)).mono ?_
      rintro e w8 ⟨_, F3, rfl, ⟨_, rfl, v3, rfl, o3⟩, n3, g3, hb⟩
      have hs_w8 := hb.size
      replace R0 := R0.below hb
      replace RZ := RZ.below hb
      replace RO := RO.below hb
      replace A0 := A0.below hb
      replace hB := tr hB hb (Nat.le_refl _)
      clear hb
      have l3 := o3.lt
      obtain ⟨a3, c3, rfl⟩ := o3.slice
      obtain ⟨F4, hF4, s3⟩ := o3.sl (Weak.refl _)
      clear o3
      clear hS
      have hS : (fun w' => w'.cell? ⟨w.heap.size, 0, none⟩ = some (.int .i64 x0.trail) ∧ w'.cell? ⟨w.heap.size, 1, none⟩ = some (.int .i64 x0.size) ∧ w'.cell? ⟨w.heap.size, 2, none⟩ = some (.slice a0_1 x0.items.length c0_1)) w8 := ⟨R0.cells 0, R0.cells 1, R0.cells 2⟩
      refine hK.out _ _ (fun _ => hS) ?_
      clear hK K
      try simp only [Act.put, List.setIfInBounds_toArray, List.set_cons_zero, List.set_cons_succ]
      refine AnyX.only (i := 9) (o := _) (by kernel_rfl) (by rw [List.getElem?_toArray]; rfl) (fun K hK => ?_)
      have c_R0 := R0.cells; have f_R0 := R0.frozens
      have c_RZ := RZ.cells; have f_RZ := RZ.frozens
      have c_RO := RO.cells; have f_RO := RO.frozens
      go_simp
      clear c_R0 f_R0 c_RZ f_RZ c_RO f_RO
      refine hK.out _ _ (fun h => by cases h) ?_
      clear hK K
      try simp only [Act.put, List.setIfInBounds_toArray, List.set_cons_zero, List.set_cons_succ]
      refine AnyX.done (by kernel_rfl) ?_ _
      (try clear hS)
      refine hK0 _ _ ?_
      clear hK0 K0
      have hsR := RO.lt
      replace s3 : Sl EStr w8 (.slice a3 (x0.items.length - k) c3) (x0.items.drop k) F4 := by
        have := s3
        simpa using this
      have n_R0 := R0.keep (show (((w8.setCell ⟨w3.heap.size, 0, none⟩ (.int .i64 (aft x0.trail k))).setCell ⟨w3.heap.size, 1, none⟩ (.int .i64 x0.size)).setCell ⟨w3.heap.size, 2, none⟩ (.slice a3 (x0.items.length - k) c3)).heap[_]? = _ from by repeat rw [Below.heap_setCell _ _ _ _ (by simp <;> omega)])
      have n_RZ := RZ.keep (show (((w8.setCell ⟨w3.heap.size, 0, none⟩ (.int .i64 (aft x0.trail k))).setCell ⟨w3.heap.size, 1, none⟩ (.int .i64 x0.size)).setCell ⟨w3.heap.size, 2, none⟩ (.slice a3 (x0.items.length - k) c3)).heap[_]? = _ from by repeat rw [Below.heap_setCell _ _ _ _ (by simp <;> omega)])
      have n_RO : Row (((w8.setCell ⟨w3.heap.size, 0, none⟩ (.int .i64 (aft x0.trail k))).setCell ⟨w3.heap.size, 1, none⟩ (.int .i64 x0.size)).setCell ⟨w3.heap.size, 2, none⟩ (.slice a3 (x0.items.length - k) c3)) (w3.heap.size) 26 [.int .i64 (aft x0.trail k), .int .i64 x0.size, .slice a3 (x0.items.length - k) c3] := by simpa using (((RO.set 0 (.int .i64 (aft x0.trail k))).set 1 (.int .i64 x0.size)).set 2 (.slice a3 (x0.items.length - k) c3))
      clear A0
      have n_s3 := s3.frame (w' := (((w8.setCell ⟨w3.heap.size, 0, none⟩ (.int .i64 (aft x0.trail k))).setCell ⟨w3.heap.size, 1, none⟩ (.int .i64 x0.size)).setCell ⟨w3.heap.size, 2, none⟩ (.slice a3 (x0.items.length - k) c3))) fun b hb => by
        have h6 := g3 b (hF4 b hb)
        have h7 := l3 b (hF4 b hb)
        repeat rw [Below.heap_setCell _ _ _ _ (by simp <;> omega)]
      have n_hB : Below w.heap.size w (((w8.setCell ⟨w3.heap.size, 0, none⟩ (.int .i64 (aft x0.trail k))).setCell ⟨w3.heap.size, 1, none⟩ (.int .i64 x0.size)).setCell ⟨w3.heap.size, 2, none⟩ (.slice a3 (x0.items.length - k) c3)) := by
        repeat refine Below.setCell ?_ (by simp <;> omega) _
        exact hB
      clear hB R0 RZ RO s3
      have hs_w9 : w8.heap.size ≤ (((w8.setCell ⟨w3.heap.size, 0, none⟩ (.int .i64 (aft x0.trail k))).setCell ⟨w3.heap.size, 1, none⟩ (.int .i64 x0.size)).setCell ⟨w3.heap.size, 2, none⟩ (.slice a3 (x0.items.length - k) c3)).heap.size := by simp
      generalize (((w8.setCell ⟨w3.heap.size, 0, none⟩ (.int .i64 (aft x0.trail k))).setCell ⟨w3.heap.size, 1, none⟩ (.int .i64 x0.size)).setCell ⟨w3.heap.size, 2, none⟩ (.slice a3 (x0.items.length - k) c3)) = w9 at *
      have hB := n_hB; clear n_hB
      have R0 := n_R0; clear n_R0
      have RZ := n_RZ; clear n_RZ
      have RO := n_RO; clear n_RO
      have s3 := n_s3; clear n_s3
      replace s3 := Lib.hid s3
      have c_R0 := R0.cells; have f_R0 := R0.frozens
      have c_RZ := RZ.cells; have f_RZ := RZ.frozens
      have c_RO := RO.cells; have f_RO := RO.frozens
      go_wp2_with fail
      refine bodyPost_ret (v := .tuple #[.agg #[.int .i64 (aft x0.trail k), .int .i64 x1, .slice a3 (x0.items.length - k) c3], .bool true]) ?_ rfl ?_
      · simp [results, Tryd.results35, go_sem, c_RZ, f_RZ, c_RO, f_RO]
      · rw [hr.out]
        refine ⟨_, F4, rfl, ⟨_, rfl, _, rfl, ?_⟩, ?_⟩
        · have h5 := s3.out
          refine h5.frame fun b hb => ?_
          have h6 := g3 b (hF4 b hb)
          have h7 := l3 b (hF4 b hb)
          repeat rw [Below.heap_setCell _ _ _ _ (by simp; omega)]
        · repeat refine Below.setCell ?_ (by simp <;> omega) _
          exact hB
  · go_simp
    have al : Below w3.heap.size w3 (w3.alloc (.cells #[.int .i64 0, .int .i64 0, .slice none 0 0] 26)) := by
      repeat refine Below.alloc ?_ (by simp <;> omega) _
      exact Below.refl _ _
    have n_RO := Row.made w3 26 [.int .i64 0, .int .i64 0, .slice none 0 0]
    have hs_w10 : w3.heap.size < (w3.alloc (.cells #[.int .i64 0, .int .i64 0, .slice none 0 0] 26)).heap.size := by simp
    replace R0 := R0.below al
    replace RZ := RZ.below al
    replace A0 := A0.below al
    replace hB := tr hB al (Nat.le_refl _)
    generalize (w3.alloc (.cells #[.int .i64 0, .int .i64 0, .slice none 0 0] 26)) = w10 at *
    have RO := n_RO; clear n_RO
    clear al
    clear hS
    have hS : (fun w' => w'.cell? ⟨w.heap.size, 0, none⟩ = some (.int .i64 x0.trail) ∧ w'.cell? ⟨w.heap.size, 1, none⟩ = some (.int .i64 x0.size) ∧ w'.cell? ⟨w.heap.size, 2, none⟩ = some (.slice a0_1 x0.items.length c0_1)) w10 := ⟨R0.cells 0, R0.cells 1, R0.cells 2⟩
    refine hK.out _ _ (fun _ => hS) ?_
    clear hK K
    try simp only [Act.put, List.setIfInBounds_toArray, List.set_cons_zero, List.set_cons_succ]
    refine AnyX.only (i := 6) (o := _) (by kernel_rfl) (by rw [List.getElem?_toArray]; rfl) (fun K hK => ?_)
    go_simp
    go_at_call 121
    refine (l1Most_c _ _ _).mono ?_
    rintro e w' ⟨rfl, rfl⟩
    rw [hk3.out]
    clear hS
    have hS : (fun w' => w'.cell? ⟨w.heap.size, 0, none⟩ = some (.int .i64 x0.trail) ∧ w'.cell? ⟨w.heap.size, 1, none⟩ = some (.int .i64 x0.size) ∧ w'.cell? ⟨w.heap.size, 2, none⟩ = some (.slice a0_1 x0.items.length c0_1)) w10 := ⟨R0.cells 0, R0.cells 1, R0.cells 2⟩
    refine hK.out _ _ (fun _ => hS) ?_
    clear hK K
    try simp only [Act.put, List.setIfInBounds_toArray, List.set_cons_zero, List.set_cons_succ]
    refine AnyX.only (i := 7) (o := _) (by kernel_rfl) (by rw [List.getElem?_toArray]; rfl) (fun K hK => ?_)
    go_simp
    go_at_call 118
    refine (l9Drop_c _ x0 F0 k _ A0 hk2 (by omega) (isSer_iff.2 ⟨t0, t1⟩)).mono ?_
    rintro e w11 ⟨_, F3, rfl, ⟨_, rfl, v3, rfl, o3⟩, n3, g3, hb⟩
    have hs_w11 := hb.size
    replace R0 := R0.below hb
    replace RZ := RZ.below hb
    replace RO := RO.below hb
    replace A0 := A0.below hb
    replace hB := tr hB hb (Nat.le_refl _)
    clear hb
    have l3 := o3.lt
    obtain ⟨a3, c3, rfl⟩ := o3.slice
    obtain ⟨F4, hF4, s3⟩ := o3.sl (Weak.refl _)
    clear o3
    clear hS
    have hS : (fun w' => w'.cell? ⟨w.heap.size, 0, none⟩ = some (.int .i64 x0.trail) ∧ w'.cell? ⟨w.heap.size, 1, none⟩ = some (.int .i64 x0.size) ∧ w'.cell? ⟨w.heap.size, 2, none⟩ = some (.slice a0_1 x0.items.length c0_1)) w11 := ⟨R0.cells 0, R0.cells 1, R0.cells 2⟩
    refine hK.out _ _ (fun _ => hS) ?_
    clear hK K
    try simp only [Act.put, List.setIfInBounds_toArray, List.set_cons_zero, List.set_cons_succ]
    refine AnyX.only (i := 9) (o := _) (by kernel_rfl) (by rw [List.getElem?_toArray]; rfl) (fun K hK => ?_)
    have c_R0 := R0.cells; have f_R0 := R0.frozens
    have c_RZ := RZ.cells; have f_RZ := RZ.frozens
    have c_RO := RO.cells; have f_RO := RO.frozens
    go_simp
    clear c_R0 f_R0 c_RZ f_RZ c_RO f_RO
    refine hK.out _ _ (fun h => by cases h) ?_
    clear hK K
    try simp only [Act.put, List.setIfInBounds_toArray, List.set_cons_zero, List.set_cons_succ]
    refine AnyX.done (by kernel_rfl) ?_ _
    (try clear hS)
    refine hK0 _ _ ?_
    clear hK0 K0
    have hsR := RO.lt
    replace s3 : Sl EStr w11 (.slice a3 (x0.items.length - k) c3) (x0.items.drop k) F4 := by
      have := s3
      simpa using this
    have n_R0 := R0.keep (show (((w11.setCell ⟨w3.heap.size, 0, none⟩ (.int .i64 (aft x0.trail k))).setCell ⟨w3.heap.size, 1, none⟩ (.int .i64 x0.size)).setCell ⟨w3.heap.size, 2, none⟩ (.slice a3 (x0.items.length - k) c3)).heap[_]? = _ from by repeat rw [Below.heap_setCell _ _ _ _ (by simp <;> omega)])
    have n_RZ := RZ.keep (show (((w11.setCell ⟨w3.heap.size, 0, none⟩ (.int .i64 (aft x0.trail k))).setCell ⟨w3.heap.size, 1, none⟩ (.int .i64 x0.size)).setCell ⟨w3.heap.size, 2, none⟩ (.slice a3 (x0.items.length - k) c3)).heap[_]? = _ from by repeat rw [Below.heap_setCell _ _ _ _ (by simp <;> omega)])
    have n_RO : Row (((w11.setCell ⟨w3.heap.size, 0, none⟩ (.int .i64 (aft x0.trail k))).setCell ⟨w3.heap.size, 1, none⟩ (.int .i64 x0.size)).setCell ⟨w3.heap.size, 2, none⟩ (.slice a3 (x0.items.length - k) c3)) (w3.heap.size) 26 [.int .i64 (aft x0.trail k), .int .i64 x0.size, .slice a3 (x0.items.length - k) c3] := by simpa using (((RO.set 0 (.int .i64 (aft x0.trail k))).set 1 (.int .i64 x0.size)).set 2 (.slice a3 (x0.items.length - k) c3))
    clear A0
    have n_s3 := s3.frame (w' := (((w11.setCell ⟨w3.heap.size, 0, none⟩ (.int .i64 (aft x0.trail k))).setCell ⟨w3.heap.size, 1, none⟩ (.int .i64 x0.size)).setCell ⟨w3.heap.size, 2, none⟩ (.slice a3 (x0.items.length - k) c3))) fun b hb => by
      have h6 := g3 b (hF4 b hb)
      have h7 := l3 b (hF4 b hb)
      repeat rw [Below.heap_setCell _ _ _ _ (by simp <;> omega)]
    have n_hB : Below w.heap.size w (((w11.setCell ⟨w3.heap.size, 0, none⟩ (.int .i64 (aft x0.trail k))).setCell ⟨w3.heap.size, 1, none⟩ (.int .i64 x0.size)).setCell ⟨w3.heap.size, 2, none⟩ (.slice a3 (x0.items.length - k) c3)) := by
      repeat refine Below.setCell ?_ (by simp <;> omega) _
      exact hB
    clear hB R0 RZ RO s3
    have hs_w12 : w11.heap.size ≤ (((w11.setCell ⟨w3.heap.size, 0, none⟩ (.int .i64 (aft x0.trail k))).setCell ⟨w3.heap.size, 1, none⟩ (.int .i64 x0.size)).setCell ⟨w3.heap.size, 2, none⟩ (.slice a3 (x0.items.length - k) c3)).heap.size := by simp
    generalize (((w11.setCell ⟨w3.heap.size, 0, none⟩ (.int .i64 (aft x0.trail k))).setCell ⟨w3.heap.size, 1, none⟩ (.int .i64 x0.size)).setCell ⟨w3.heap.size, 2, none⟩ (.slice a3 (x0.items.length - k) c3)) = w12 at *
    have hB := n_hB; clear n_hB
    have R0 := n_R0; clear n_R0
    have RZ := n_RZ; clear n_RZ
    have RO := n_RO; clear n_RO
    have s3 := n_s3; clear n_s3
    replace s3 := Lib.hid s3
    have c_R0 := R0.cells; have f_R0 := R0.frozens
    have c_RZ := RZ.cells; have f_RZ := RZ.frozens
    have c_RO := RO.cells; have f_RO := RO.frozens
    go_wp2_with fail
    refine bodyPost_ret (v := .tuple #[.agg #[.int .i64 (aft x0.trail k), .int .i64 x1, .slice a3 (x0.items.length - k) c3], .bool true]) ?_ rfl ?_
    · simp [results, Tryd.results35, go_sem, c_RZ, f_RZ, c_RO, f_RO]
    · rw [hr.out]
      refine ⟨_, F4, rfl, ⟨_, rfl, _, rfl, ?_⟩, ?_⟩
      · have h5 := s3.out
        refine h5.frame fun b hb => ?_
        have h6 := g3 b (hF4 b hb)
        have h7 := l3 b (hF4 b hb)
        repeat rw [Below.heap_setCell _ _ _ _ (by simp; omega)]
      · repeat refine Below.setCell ?_ (by simp <;> omega) _
        exact hB
set_option maxHeartbeats 3200000 in
theorem ResizeWindow_c (v0 : Value) (x0 : SendWindow) (F0 : List Nat) (x1 : Int) (w : World) (h0 : IsV ESendWindow w v0 x0 F0) :
    Calls Tryd.prog 34 #[v0, .int .i64 x1] w (PI_ResizeWindow (resResizeWindow x0 x1) w) := by
  have A0 := h0
  have lA0 := h0.lt
  obtain ⟨_, rfl, v0_1, rfl, h0_1⟩ := h0
  obtain ⟨a0_1, c0_1, rfl⟩ := h0_1.slice
  clear h0_1
  go_enter Tryd.func34, Tryd.ntmps34
  go_wp2_with fail
  have al : Below w.heap.size w ((w.alloc (.cells #[.int .i64 x0.trail, .int .i64 x0.size, .slice a0_1 x0.items.length c0_1] 26)).alloc (.cells #[.int .i64 0, .int .i64 0, .slice none 0 0] 26)) := by
    repeat refine Below.alloc ?_ (by simp <;> omega) _
    exact Below.refl _ _
  have n_R0 : Row ((w.alloc (.cells #[.int .i64 x0.trail, .int .i64 x0.size, .slice a0_1 x0.items.length c0_1] 26)).alloc (.cells #[.int .i64 0, .int .i64 0, .slice none 0 0] 26)) (w.heap.size) 26 [.int .i64 x0.trail, .int .i64 x0.size, .slice a0_1 x0.items.length c0_1] := by simp [row_alloc] <;> omega
  have n_RZ : Row ((w.alloc (.cells #[.int .i64 x0.trail, .int .i64 x0.size, .slice a0_1 x0.items.length c0_1] 26)).alloc (.cells #[.int .i64 0, .int .i64 0, .slice none 0 0] 26)) (w.heap.size + 1) 26 [.int .i64 0, .int .i64 0, .slice none 0 0] := by simp [row_alloc] <;> omega
  have hs_w1 : w.heap.size + 1 < ((w.alloc (.cells #[.int .i64 x0.trail, .int .i64 x0.size, .slice a0_1 x0.items.length c0_1] 26)).alloc (.cells #[.int .i64 0, .int .i64 0, .slice none 0 0] 26)).heap.size := by simp <;> omega
  replace A0 := A0.below al
  have hB := al
  generalize ((w.alloc (.cells #[.int .i64 x0.trail, .int .i64 x0.size, .slice a0_1 x0.items.length c0_1] 26)).alloc (.cells #[.int .i64 0, .int .i64 0, .slice none 0 0] 26)) = w1 at *
  have R0 := n_R0; clear n_R0
  have RZ := n_RZ; clear n_RZ
  clear al
  refine (IsValidSendWindow_c _ x0 F0 _ A0).mono ?_
  rintro e w2 ⟨rfl, hb⟩
  have hs_w2 := hb.size
  replace R0 := R0.below hb
  replace RZ := RZ.below hb
  replace A0 := A0.below hb
  replace hB := tr hB hb (Nat.le_refl _)
  clear hb
  cases g1 : goodWin x0
  · have hr : resResizeWindow x0 x1 = (⟨0, 0, []⟩, false) := by unfold resResizeWindow okResizeWindow; rw [g1]; simp
    replace hr := Lib.hid hr
    have c_R0 := R0.cells; have f_R0 := R0.frozens
    have c_RZ := RZ.cells; have f_RZ := RZ.frozens
    go_wp2_with fail
    refine bodyPost_ret (v := .tuple #[.agg #[.int .i64 0, .int .i64 0, .slice none 0 0], .bool false]) ?_ rfl ?_
    · simp [results, Tryd.results34, go_sem, c_RZ, f_RZ]
    · rw [hr.out]
      refine ⟨_, [], rfl, ⟨_, rfl, _, rfl, .inl ⟨rfl, rfl, rfl⟩⟩, by simp, by simp, ?_⟩
      repeat refine Below.setCell ?_ (by simp <;> omega) _
      exact hB
  have gg := goodWin_iff.1 g1
  obtain ⟨⟨t0, t1⟩, ⟨z0, z1⟩, hlen, -⟩ := gg
  have c_R0 := R0.cells; have f_R0 := R0.frozens
  have c_RZ := RZ.cells; have f_RZ := RZ.frozens
  go_wp2_with fail
  clear c_R0 f_R0 c_RZ f_RZ
  refine (within_c _ _ _ _).mono ?_
  rintro e w' ⟨rfl, rfl⟩
  cases g2 : btw 1 x1 6
  · have hr : resResizeWindow x0 x1 = (⟨0, 0, []⟩, false) := by unfold resResizeWindow okResizeWindow; rw [g2]; simp
    replace hr := Lib.hid hr
    have c_R0 := R0.cells; have f_R0 := R0.frozens
    have c_RZ := RZ.cells; have f_RZ := RZ.frozens
    go_wp2_with fail
    refine bodyPost_ret (v := .tuple #[.agg #[.int .i64 0, .int .i64 0, .slice none 0 0], .bool false]) ?_ rfl ?_
    · simp [results, Tryd.results34, go_sem, c_RZ, f_RZ]
    · rw [hr.out]
      refine ⟨_, [], rfl, ⟨_, rfl, _, rfl, .inl ⟨rfl, rfl, rfl⟩⟩, by simp, by simp, ?_⟩
      repeat refine Below.setCell ?_ (by simp <;> omega) _
      exact hB
  have gn : 1 ≤ x1 ∧ x1 ≤ 6 := by unfold btw at g2; simpa using g2
  obtain ⟨k, hk⟩ : ∃ k : Nat, k = tooMany x0 x1 := ⟨_, rfl⟩
  have hr : resResizeWindow x0 x1 = (⟨aft x0.trail k, x1, x0.items.drop k⟩, true) := by
    unfold resResizeWindow okResizeWindow
    rw [g1, g2, hk]; rfl
  have hk1 : max 0 ((x0.items.length : Int) - x1) = (k : Int) := by rw [hk]; unfold tooMany; omega
  have hk2 : k ≤ x0.items.length := by omega
  have hk3 : max 0 (IntKind.i64.wrap ((x0.items.length : Int) - x1)) = (k : Int) := by rw [IntKind.wrap_i64, ← hk1]; omega
  replace hr := Lib.hid hr
  replace hk1 := Lib.hid hk1
  replace hk3 := Lib.hid hk3
  clear hk
  have c_R0 := R0.cells; have f_R0 := R0.frozens
  have c_RZ := RZ.cells; have f_RZ := RZ.frozens
  go_wp2_with fail
  clear c_R0 f_R0 c_RZ f_RZ
  refine (SendWindow_clone_c _ x0 F0 _ A0 (by omega)).mono ?_
  rintro e w3 ⟨_, F3, rfl, ⟨_, rfl, v3, rfl, o3⟩, n3, g3, hb⟩
  have hs_w3 := hb.size
  replace R0 := R0.below hb
  replace RZ := RZ.below hb
  replace A0 := A0.below hb
  replace hB := tr hB hb (Nat.le_refl _)
  clear hb
  obtain ⟨a3, c3, rfl⟩ := o3.slice
  have l3 := o3.lt
  have c_R0 := R0.cells; have f_R0 := R0.frozens; have d_R0 := fun o => (R0.alloc o).cells; have e_R0 := fun o => (R0.alloc o).frozens
  go_wp2_with fail
  clear c_R0 f_R0 d_R0 e_R0
  have al : Below w3.heap.size w3 (w3.alloc (.cells #[.int .i64 x0.trail, .int .i64 x1, .slice a3 x0.items.length c3] 26)) := by
    repeat refine Below.alloc ?_ (by simp <;> omega) _
    exact Below.refl _ _
  have n_RO := Row.made w3 26 [.int .i64 x0.trail, .int .i64 x1, .slice a3 x0.items.length c3]
  have hs_w4 : w3.heap.size < (w3.alloc (.cells #[.int .i64 x0.trail, .int .i64 x1, .slice a3 x0.items.length c3] 26)).heap.size := by simp
  replace R0 := R0.below al
  replace RZ := RZ.below al
  replace A0 := A0.below al
  replace o3 := o3.below al
  replace hB := tr hB al (Nat.le_refl _)
  generalize (w3.alloc (.cells #[.int .i64 x0.trail, .int .i64 x1, .slice a3 x0.items.length c3] 26)) = w4 at *
  have RO := n_RO; clear n_RO
  clear al
  rw [hk1.out]
  refine (SendWindow_drop_c ⟨x0.trail, x1, x0.items⟩ k 26 w3.heap.size 0 [] [] F3 _ ⟨_, by simpa using RO, rfl, ⟨_, rfl, o3⟩, n3, fun hm => by have := l3 _ hm; omega⟩ hk2 (by show x0.items.length ≤ _; omega) (isSer_iff.2 ⟨t0, t1⟩)).mono ?_
  rintro e w5 ⟨⟨u, rfl⟩, F5, ⟨_, hr5, -, ⟨v5, rfl, o5⟩, n5, -⟩, hF5, K⟩
  obtain ⟨a5, c5, rfl⟩ := o5.slice
  have hF5' : ∀ b ∈ F5, w.heap.size + 1 < b := fun b hb => by
    have := RZ.lt
    rcases hF5 b hb with h | h
    · have := g3 b h; omega
    · omega
  have hs5 := K.size
  clear o3
  clear R0
  replace RZ := RZ.keepK K (fun hm => by
    rcases List.mem_cons.1 hm with h | h
    · omega
    · have := g3 _ h; omega)
  clear RO
  clear A0
  replace hB := hB.trans (K.below (B := w.heap.size) (by omega) (fun b hm => by
    rcases List.mem_cons.1 hm with h | h
    · omega
    · have := g3 _ h; omega))
  have r5 : Row w5 w3.heap.size 26 [.int .i64 (aft x0.trail k), .int .i64 x1, .slice a5 (x0.items.drop k).length c5] := by simpa using hr5
  clear K hr5
  replace o5 := Lib.hid o5
  have c_RZ := RZ.cells; have f_RZ := RZ.frozens
  have c_r5 := r5.cells; have f_r5 := r5.frozens
  go_wp2_with fail
  refine bodyPost_ret (v := .tuple #[.agg #[.int .i64 (aft x0.trail k), .int .i64 x1, .slice a5 (x0.items.length - k) c5], .bool true]) ?_ rfl ?_
  · simp [results, Tryd.results34, go_sem, c_RZ, f_RZ, c_r5]
  · rw [hr.out]
    refine ⟨_, F5, rfl, ⟨_, rfl, _, rfl, ?_⟩, n5, fun b hb => by have := hF5' b hb; omega, ?_⟩
    · repeat refine Ow.setFar ?_ (fun hm => by have := hF5' _ hm; simp at this) _
      simpa using o5.out
    · repeat refine Below.setCell ?_ (by simp <;> omega) _
      exact hB
end Go.Proofs.YtidephmobajikaaDoor
