/- Walks: PushItem, the reference's. -/
import Derived.Test.YtnbccfnnamgfiaaDoorPushSpec
namespace Go.Proofs.YtnbccfnnamgfiaaDoor
open Go.RowKit
set_option maxHeartbeats 3200000 in
set_option maxRecDepth 100000 in
theorem specPushItem_c (v0 : Value) (x0 : SendWindow) (F0 : List Nat) (x1 : ByteArray) (w : World) (h0 : IsV ESendWindow w v0 x0 F0) (h1 : x1.size ≤ maxLen) :
    Calls Tryd.prog 23 #[v0, .string x1] w (PS_PushItem (resPushItem x0 x1) w) := by
  have A0 := h0
  have lA0 := h0.lt
  obtain ⟨_, rfl, v0_1, rfl, h0_1⟩ := h0
  obtain ⟨a0_1, c0_1, rfl⟩ := h0_1.slice
  clear h0_1
  go_enter Tryd.func23, Tryd.ntmps23
  go_wp2_with fail
  have al : Below w.heap.size w (((w.alloc (.cells #[.int .i64 x0.trail, .int .i64 x0.size, .slice a0_1 x0.items.length c0_1] 39)).alloc (.cells #[.int .i64 0, .int .i64 0, .slice none 0 0] 39)).alloc (.cells #[.int .i64 0, .int .i64 0, .int .i64 0, .int .i64 0, .string ⟨#[]⟩] 41)) := by
    repeat refine Below.alloc ?_ (by simp <;> omega) _
    exact Below.refl _ _
  have n_R0 : Row (((w.alloc (.cells #[.int .i64 x0.trail, .int .i64 x0.size, .slice a0_1 x0.items.length c0_1] 39)).alloc (.cells #[.int .i64 0, .int .i64 0, .slice none 0 0] 39)).alloc (.cells #[.int .i64 0, .int .i64 0, .int .i64 0, .int .i64 0, .string ⟨#[]⟩] 41)) (w.heap.size) 39 [.int .i64 x0.trail, .int .i64 x0.size, .slice a0_1 x0.items.length c0_1] := by simp [row_alloc] <;> omega
  have n_RZ : Row (((w.alloc (.cells #[.int .i64 x0.trail, .int .i64 x0.size, .slice a0_1 x0.items.length c0_1] 39)).alloc (.cells #[.int .i64 0, .int .i64 0, .slice none 0 0] 39)).alloc (.cells #[.int .i64 0, .int .i64 0, .int .i64 0, .int .i64 0, .string ⟨#[]⟩] 41)) (w.heap.size + 1) 39 [.int .i64 0, .int .i64 0, .slice none 0 0] := by simp [row_alloc] <;> omega
  have n_RP : Row (((w.alloc (.cells #[.int .i64 x0.trail, .int .i64 x0.size, .slice a0_1 x0.items.length c0_1] 39)).alloc (.cells #[.int .i64 0, .int .i64 0, .slice none 0 0] 39)).alloc (.cells #[.int .i64 0, .int .i64 0, .int .i64 0, .int .i64 0, .string ⟨#[]⟩] 41)) (w.heap.size + 1 + 1) 41 [.int .i64 0, .int .i64 0, .int .i64 0, .int .i64 0, .string ⟨#[]⟩] := by simp [row_alloc] <;> omega
  have hs_w1 : w.heap.size + 1 + 1 < (((w.alloc (.cells #[.int .i64 x0.trail, .int .i64 x0.size, .slice a0_1 x0.items.length c0_1] 39)).alloc (.cells #[.int .i64 0, .int .i64 0, .slice none 0 0] 39)).alloc (.cells #[.int .i64 0, .int .i64 0, .int .i64 0, .int .i64 0, .string ⟨#[]⟩] 41)).heap.size := by simp <;> omega
  replace A0 := A0.below al
  have hB := al
  generalize (((w.alloc (.cells #[.int .i64 x0.trail, .int .i64 x0.size, .slice a0_1 x0.items.length c0_1] 39)).alloc (.cells #[.int .i64 0, .int .i64 0, .slice none 0 0] 39)).alloc (.cells #[.int .i64 0, .int .i64 0, .int .i64 0, .int .i64 0, .string ⟨#[]⟩] 41)) = w1 at *
  have R0 := n_R0; clear n_R0
  have RZ := n_RZ; clear n_RZ
  have RP := n_RP; clear n_RP
  clear al
  refine (l9Good_c _ x0 F0 _ A0).mono ?_
  rintro e w2 ⟨rfl, hb⟩
  have hs_w2 := hb.size
  replace R0 := R0.below hb
  replace RZ := RZ.below hb
  replace RP := RP.below hb
  replace A0 := A0.below hb
  replace hB := tr hB hb (Nat.le_refl _)
  clear hb
  cases g1 : goodWin x0
  · have hr : resPushItem x0 x1 = (⟨0, 0, []⟩, ⟨0, 0, 0, 0, ⟨#[]⟩⟩, false) := by unfold resPushItem okPushItem; rw [g1]; simp
    replace hr := Lib.hid hr
    have c_R0 := R0.cells; have f_R0 := R0.frozens
    have c_RZ := RZ.cells; have f_RZ := RZ.frozens
    have c_RP := RP.cells; have f_RP := RP.frozens
    go_wp2_with fail
    refine bodyPost_ret (v := .tuple #[.agg #[.int .i64 0, .int .i64 0, .slice none 0 0], .agg #[.int .i64 0, .int .i64 0, .int .i64 0, .int .i64 0, .string ⟨#[]⟩], .bool false]) ?_ rfl ?_
    · simp [results, Tryd.results23, go_sem, c_RZ, f_RZ, c_RP, f_RP]
    · rw [hr.out]
      refine ⟨_, [], _, [], rfl, ⟨_, rfl, _, rfl, none, 0, rfl, by simp, .inl ⟨rfl, rfl, fun _ => rfl⟩⟩, ⟨_, rfl, rfl, by decide, rfl⟩, ?_⟩
      repeat refine Below.setCell ?_ (by simp <;> omega) _
      exact hB
  have gg := goodWin_iff.1 g1
  obtain ⟨⟨t0, t1⟩, ⟨z0, z1⟩, hlen, -⟩ := gg
  have c_R0 := R0.cells; have f_R0 := R0.frozens
  have c_RZ := RZ.cells; have f_RZ := RZ.frozens
  have c_RP := RP.cells; have f_RP := RP.frozens
  go_wp2_with fail
  clear c_R0 f_R0 c_RZ f_RZ c_RP f_RP
  refine (l4Letters_c _ _ _ h1).mono ?_
  rintro e w' ⟨rfl, rfl⟩
  have g3 : (decide ((x1.size : Int) ≤ 8) && lows x1.data.toList) = itm x1 := rfl
  rw [g3]
  clear g3
  cases g2 : itm x1
  · have hr : resPushItem x0 x1 = (⟨0, 0, []⟩, ⟨0, 0, 0, 0, ⟨#[]⟩⟩, false) := by unfold resPushItem okPushItem; rw [g1, g2]; simp
    replace hr := Lib.hid hr
    have c_R0 := R0.cells; have f_R0 := R0.frozens
    have c_RZ := RZ.cells; have f_RZ := RZ.frozens
    have c_RP := RP.cells; have f_RP := RP.frozens
    go_wp2_with fail
    refine bodyPost_ret (v := .tuple #[.agg #[.int .i64 0, .int .i64 0, .slice none 0 0], .agg #[.int .i64 0, .int .i64 0, .int .i64 0, .int .i64 0, .string ⟨#[]⟩], .bool false]) ?_ rfl ?_
    · simp [results, Tryd.results23, go_sem, c_RZ, f_RZ, c_RP, f_RP]
    · rw [hr.out]
      refine ⟨_, [], _, [], rfl, ⟨_, rfl, _, rfl, none, 0, rfl, by simp, .inl ⟨rfl, rfl, fun _ => rfl⟩⟩, ⟨_, rfl, rfl, by decide, rfl⟩, ?_⟩
      repeat refine Below.setCell ?_ (by simp <;> omega) _
      exact hB
  obtain ⟨y, hy⟩ : ∃ y, y = pushedW x0 x1 := ⟨_, rfl⟩
  obtain ⟨q, hq⟩ : ∃ q, q = pushedP x0 x1 := ⟨_, rfl⟩
  have hr : resPushItem x0 x1 = (y, q, true) := by
    unfold resPushItem okPushItem
    rw [g1, g2, hy, hq]; rfl
  have hqk : q.kind = 1 := by rw [hq]; rfl
  have hqd : q.data = x1 := by rw [hq]; rfl
  replace hr := Lib.hid hr
  replace hqk := Lib.hid hqk
  replace hqd := Lib.hid hqd
  replace hy := Lib.hid hy
  replace hq := Lib.hid hq
  have c_R0 := R0.cells; have f_R0 := R0.frozens
  have c_RZ := RZ.cells; have f_RZ := RZ.frozens
  have c_RP := RP.cells; have f_RP := RP.frozens
  go_wp2_with fail
  clear c_R0 f_R0 c_RZ f_RZ c_RP f_RP
  have hd := l9Push_c _ x0 F0 x1 _ A0 (by omega) t0 t1 h1 z0
  rw [← hy.out, ← hq.out] at hd
  refine (hd).mono ?_
  rintro e w3 ⟨_, F5, rfl, ⟨_, rfl, v5, rfl, s5⟩, g5, hb⟩
  have hs_w3 := hb.size
  replace R0 := R0.below hb
  replace RZ := RZ.below hb
  replace RP := RP.below hb
  replace A0 := A0.below hb
  replace hB := tr hB hb (Nat.le_refl _)
  clear hb
  clear hd A0
  obtain ⟨a5, c5, rfl⟩ := s5.slice
  have l5 := s5.lt (by decide)
  replace s5 := Lib.hid s5
  have c_R0 := R0.cells; have f_R0 := R0.frozens; have d_R0 := fun o => (R0.alloc o).cells; have e_R0 := fun o => (R0.alloc o).frozens; have dd_R0 := fun o o' => ((R0.alloc o).alloc o').cells; have ee_R0 := fun o o' => ((R0.alloc o).alloc o').frozens
  have c_RZ := RZ.cells; have f_RZ := RZ.frozens; have d_RZ := fun o => (RZ.alloc o).cells; have e_RZ := fun o => (RZ.alloc o).frozens; have dd_RZ := fun o o' => ((RZ.alloc o).alloc o').cells; have ee_RZ := fun o o' => ((RZ.alloc o).alloc o').frozens
  have c_RP := RP.cells; have f_RP := RP.frozens; have d_RP := fun o => (RP.alloc o).cells; have e_RP := fun o => (RP.alloc o).frozens; have dd_RP := fun o o' => ((RP.alloc o).alloc o').cells; have ee_RP := fun o o' => ((RP.alloc o).alloc o').frozens
  go_wp2_with fail
  clear c_R0 f_R0 d_R0 e_R0 dd_R0 ee_R0 c_RZ f_RZ d_RZ e_RZ dd_RZ ee_RZ c_RP f_RP d_RP e_RP dd_RP ee_RP
  replace s5 := s5.out
  have al : Below w3.heap.size w3 ((w3.alloc (.cells #[.int .i64 y.trail, .int .i64 y.size, .slice a5 y.items.length c5] 39)).alloc (.cells #[.int .i64 1, .int .i64 q.number, .int .i64 q.trail, .int .i64 q.lead, .string x1] 41)) := by
    repeat refine Below.alloc ?_ (by simp <;> omega) _
    exact Below.refl _ _
  have n_RO : Row ((w3.alloc (.cells #[.int .i64 y.trail, .int .i64 y.size, .slice a5 y.items.length c5] 39)).alloc (.cells #[.int .i64 1, .int .i64 q.number, .int .i64 q.trail, .int .i64 q.lead, .string x1] 41)) (w3.heap.size) 39 [.int .i64 y.trail, .int .i64 y.size, .slice a5 y.items.length c5] := by simp [row_alloc] <;> omega
  have n_R8 : Row ((w3.alloc (.cells #[.int .i64 y.trail, .int .i64 y.size, .slice a5 y.items.length c5] 39)).alloc (.cells #[.int .i64 1, .int .i64 q.number, .int .i64 q.trail, .int .i64 q.lead, .string x1] 41)) (w3.heap.size + 1) 41 [.int .i64 1, .int .i64 q.number, .int .i64 q.trail, .int .i64 q.lead, .string x1] := by simp [row_alloc] <;> omega
  have hs_w4 : w3.heap.size + 1 < ((w3.alloc (.cells #[.int .i64 y.trail, .int .i64 y.size, .slice a5 y.items.length c5] 39)).alloc (.cells #[.int .i64 1, .int .i64 q.number, .int .i64 q.trail, .int .i64 q.lead, .string x1] 41)).heap.size := by simp <;> omega
  replace R0 := R0.below al
  replace RZ := RZ.below al
  replace RP := RP.below al
  replace s5 := s5.below (by decide) al
  replace hB := tr hB al (Nat.le_refl _)
  generalize ((w3.alloc (.cells #[.int .i64 y.trail, .int .i64 y.size, .slice a5 y.items.length c5] 39)).alloc (.cells #[.int .i64 1, .int .i64 q.number, .int .i64 q.trail, .int .i64 q.lead, .string x1] 41)) = w4 at *
  have RO := n_RO; clear n_RO
  have R8 := n_R8; clear n_R8
  clear al
  have hlz := RZ.lt
  have hne5 : ∀ b ∈ F5, w.heap.size + 2 < b := fun b hb => by have := g5 b hb; omega
  rename_i K0 hK0
  refine AnyX.start (S := (fun w' => w'.cell? ⟨w3.heap.size, 0, none⟩ = some (.int .i64 y.trail) ∧ w'.cell? ⟨w3.heap.size, 1, none⟩ = some (.int .i64 y.size) ∧ w'.cell? ⟨w3.heap.size, 2, none⟩ = some (.slice a5 y.items.length c5) ∧ w'.cell? ⟨w3.heap.size + 1, 0, none⟩ = some (.int .i64 1) ∧ w'.cell? ⟨w3.heap.size + 1, 1, none⟩ = some (.int .i64 q.number) ∧ w'.cell? ⟨w3.heap.size + 1, 2, none⟩ = some (.int .i64 q.trail) ∧ w'.cell? ⟨w3.heap.size + 1, 3, none⟩ = some (.int .i64 q.lead) ∧ w'.cell? ⟨w3.heap.size + 1, 4, none⟩ = some (.string x1))) (X := (fun _ => false)) (by kernel_rfl) ?_
  have al : Below w4.heap.size w4 w4.drew := belowDrewN (Below.refl _ _) 1
  have hs_w5 := al.size
  replace R0 := R0.below al
  replace RZ := RZ.below al
  replace RP := RP.below al
  replace RO := RO.below al
  replace R8 := R8.below al
  replace s5 := s5.below (by decide) al
  replace hB := tr hB al (Nat.le_refl _)
  generalize w4.drew = w5 at *
  clear al
  have hS : (fun w' => w'.cell? ⟨w3.heap.size, 0, none⟩ = some (.int .i64 y.trail) ∧ w'.cell? ⟨w3.heap.size, 1, none⟩ = some (.int .i64 y.size) ∧ w'.cell? ⟨w3.heap.size, 2, none⟩ = some (.slice a5 y.items.length c5) ∧ w'.cell? ⟨w3.heap.size + 1, 0, none⟩ = some (.int .i64 1) ∧ w'.cell? ⟨w3.heap.size + 1, 1, none⟩ = some (.int .i64 q.number) ∧ w'.cell? ⟨w3.heap.size + 1, 2, none⟩ = some (.int .i64 q.trail) ∧ w'.cell? ⟨w3.heap.size + 1, 3, none⟩ = some (.int .i64 q.lead) ∧ w'.cell? ⟨w3.heap.size + 1, 4, none⟩ = some (.string x1)) w5 := ⟨RO.cells 0, RO.cells 1, RO.cells 2, R8.cells 0, R8.cells 1, R8.cells 2, R8.cells 3, R8.cells 4⟩
  refine AnyX.take (i := 0) (oi := _) (v := ?_) (by rw [List.getElem?_toArray]; rfl) (by kernel_rfl) (by kernel_rfl) (by kernel_rfl) (by kernel_rfl) (by kernel_rfl) (by exact fun _ _ _ h => h) (Or.inl ⟨by rfl, ?_⟩) hS ?_
  rotate_left
  · (intro wS hSw; (try dsimp only at hSw); go_simp; try with_reducible rfl)
  try simp only [Act.put, List.setIfInBounds_toArray, List.set_cons_zero, List.set_cons_succ]
  refine AnyX.take (i := 1) (oi := _) (v := ?_) (by rw [List.getElem?_toArray]; rfl) (by kernel_rfl) (by kernel_rfl) (by kernel_rfl) (by kernel_rfl) (by kernel_rfl) (by exact fun _ _ _ h => h) (Or.inl ⟨by rfl, ?_⟩) hS ?_
  rotate_left
  · (intro wS hSw; (try dsimp only at hSw); go_simp; try with_reducible rfl)
  try simp only [Act.put, List.setIfInBounds_toArray, List.set_cons_zero, List.set_cons_succ]
  refine AnyX.only (i := 2) (o := _) (by kernel_rfl) (by rw [List.getElem?_toArray]; rfl) (fun K hK => ?_)
  have c_R0 := R0.cells; have f_R0 := R0.frozens
  have c_RZ := RZ.cells; have f_RZ := RZ.frozens
  have c_RP := RP.cells; have f_RP := RP.frozens
  have c_RO := RO.cells; have f_RO := RO.frozens
  have c_R8 := R8.cells; have f_R8 := R8.frozens
  go_simp
  clear c_R0 f_R0 c_RZ f_RZ c_RP f_RP c_RO f_RO c_R8 f_R8
  have n_R0 := R0.keep (show (((w5.setCell ⟨w.heap.size + 1, 0, none⟩ (.int .i64 y.trail)).setCell ⟨w.heap.size + 1, 1, none⟩ (.int .i64 y.size)).setCell ⟨w.heap.size + 1, 2, none⟩ (.slice a5 y.items.length c5)).heap[_]? = _ from by repeat rw [Below.heap_setCell _ _ _ _ (by simp <;> omega)])
  have n_RP := RP.keep (show (((w5.setCell ⟨w.heap.size + 1, 0, none⟩ (.int .i64 y.trail)).setCell ⟨w.heap.size + 1, 1, none⟩ (.int .i64 y.size)).setCell ⟨w.heap.size + 1, 2, none⟩ (.slice a5 y.items.length c5)).heap[_]? = _ from by repeat rw [Below.heap_setCell _ _ _ _ (by simp <;> omega)])
  have n_RO := RO.keep (show (((w5.setCell ⟨w.heap.size + 1, 0, none⟩ (.int .i64 y.trail)).setCell ⟨w.heap.size + 1, 1, none⟩ (.int .i64 y.size)).setCell ⟨w.heap.size + 1, 2, none⟩ (.slice a5 y.items.length c5)).heap[_]? = _ from by repeat rw [Below.heap_setCell _ _ _ _ (by simp <;> omega)])
  have n_R8 := R8.keep (show (((w5.setCell ⟨w.heap.size + 1, 0, none⟩ (.int .i64 y.trail)).setCell ⟨w.heap.size + 1, 1, none⟩ (.int .i64 y.size)).setCell ⟨w.heap.size + 1, 2, none⟩ (.slice a5 y.items.length c5)).heap[_]? = _ from by repeat rw [Below.heap_setCell _ _ _ _ (by simp <;> omega)])
  have n_RZ : Row (((w5.setCell ⟨w.heap.size + 1, 0, none⟩ (.int .i64 y.trail)).setCell ⟨w.heap.size + 1, 1, none⟩ (.int .i64 y.size)).setCell ⟨w.heap.size + 1, 2, none⟩ (.slice a5 y.items.length c5)) (w.heap.size + 1) 39 [.int .i64 y.trail, .int .i64 y.size, .slice a5 y.items.length c5] := by simpa using (((RZ.set 0 (.int .i64 y.trail)).set 1 (.int .i64 y.size)).set 2 (.slice a5 y.items.length c5))
  have n_s5 := s5.frame (w' := (((w5.setCell ⟨w.heap.size + 1, 0, none⟩ (.int .i64 y.trail)).setCell ⟨w.heap.size + 1, 1, none⟩ (.int .i64 y.size)).setCell ⟨w.heap.size + 1, 2, none⟩ (.slice a5 y.items.length c5))) fun b hb => by
    have h6 := hne5 b hb
    repeat rw [Below.heap_setCell _ _ _ _ (by simp <;> omega)]
  have n_hB : Below w.heap.size w (((w5.setCell ⟨w.heap.size + 1, 0, none⟩ (.int .i64 y.trail)).setCell ⟨w.heap.size + 1, 1, none⟩ (.int .i64 y.size)).setCell ⟨w.heap.size + 1, 2, none⟩ (.slice a5 y.items.length c5)) := by
    repeat refine Below.setCell ?_ (by simp <;> omega) _
    exact hB
  clear hB R0 RZ RP RO R8 s5
  have hs_w6 : w5.heap.size ≤ (((w5.setCell ⟨w.heap.size + 1, 0, none⟩ (.int .i64 y.trail)).setCell ⟨w.heap.size + 1, 1, none⟩ (.int .i64 y.size)).setCell ⟨w.heap.size + 1, 2, none⟩ (.slice a5 y.items.length c5)).heap.size := by simp
  generalize (((w5.setCell ⟨w.heap.size + 1, 0, none⟩ (.int .i64 y.trail)).setCell ⟨w.heap.size + 1, 1, none⟩ (.int .i64 y.size)).setCell ⟨w.heap.size + 1, 2, none⟩ (.slice a5 y.items.length c5)) = w6 at *
  have hB := n_hB; clear n_hB
  have R0 := n_R0; clear n_R0
  have RZ := n_RZ; clear n_RZ
  have RP := n_RP; clear n_RP
  have RO := n_RO; clear n_RO
  have R8 := n_R8; clear n_R8
  have s5 := n_s5; clear n_s5
  clear hS
  have hS : (fun w' => w'.cell? ⟨w3.heap.size, 0, none⟩ = some (.int .i64 y.trail) ∧ w'.cell? ⟨w3.heap.size, 1, none⟩ = some (.int .i64 y.size) ∧ w'.cell? ⟨w3.heap.size, 2, none⟩ = some (.slice a5 y.items.length c5) ∧ w'.cell? ⟨w3.heap.size + 1, 0, none⟩ = some (.int .i64 1) ∧ w'.cell? ⟨w3.heap.size + 1, 1, none⟩ = some (.int .i64 q.number) ∧ w'.cell? ⟨w3.heap.size + 1, 2, none⟩ = some (.int .i64 q.trail) ∧ w'.cell? ⟨w3.heap.size + 1, 3, none⟩ = some (.int .i64 q.lead) ∧ w'.cell? ⟨w3.heap.size + 1, 4, none⟩ = some (.string x1)) w6 := ⟨RO.cells 0, RO.cells 1, RO.cells 2, R8.cells 0, R8.cells 1, R8.cells 2, R8.cells 3, R8.cells 4⟩
  refine hK.out _ _ (fun _ => hS) ?_
  clear hK K
  try simp only [Act.put, List.setIfInBounds_toArray, List.set_cons_zero, List.set_cons_succ]
  refine AnyX.only (i := 3) (o := _) (by kernel_rfl) (by rw [List.getElem?_toArray]; rfl) (fun K hK => ?_)
  have c_R0 := R0.cells; have f_R0 := R0.frozens
  have c_RZ := RZ.cells; have f_RZ := RZ.frozens
  have c_RP := RP.cells; have f_RP := RP.frozens
  have c_RO := RO.cells; have f_RO := RO.frozens
  have c_R8 := R8.cells; have f_R8 := R8.frozens
  go_simp
  clear c_R0 f_R0 c_RZ f_RZ c_RP f_RP c_RO f_RO c_R8 f_R8
  have n_R0 := R0.keep (show (((((w6.setCell ⟨w.heap.size + 1 + 1, 0, none⟩ (.int .i64 1)).setCell ⟨w.heap.size + 1 + 1, 1, none⟩ (.int .i64 q.number)).setCell ⟨w.heap.size + 1 + 1, 2, none⟩ (.int .i64 q.trail)).setCell ⟨w.heap.size + 1 + 1, 3, none⟩ (.int .i64 q.lead)).setCell ⟨w.heap.size + 1 + 1, 4, none⟩ (.string x1)).heap[_]? = _ from by repeat rw [Below.heap_setCell _ _ _ _ (by simp <;> omega)])
  have n_RZ := RZ.keep (show (((((w6.setCell ⟨w.heap.size + 1 + 1, 0, none⟩ (.int .i64 1)).setCell ⟨w.heap.size + 1 + 1, 1, none⟩ (.int .i64 q.number)).setCell ⟨w.heap.size + 1 + 1, 2, none⟩ (.int .i64 q.trail)).setCell ⟨w.heap.size + 1 + 1, 3, none⟩ (.int .i64 q.lead)).setCell ⟨w.heap.size + 1 + 1, 4, none⟩ (.string x1)).heap[_]? = _ from by repeat rw [Below.heap_setCell _ _ _ _ (by simp <;> omega)])
  have n_RO := RO.keep (show (((((w6.setCell ⟨w.heap.size + 1 + 1, 0, none⟩ (.int .i64 1)).setCell ⟨w.heap.size + 1 + 1, 1, none⟩ (.int .i64 q.number)).setCell ⟨w.heap.size + 1 + 1, 2, none⟩ (.int .i64 q.trail)).setCell ⟨w.heap.size + 1 + 1, 3, none⟩ (.int .i64 q.lead)).setCell ⟨w.heap.size + 1 + 1, 4, none⟩ (.string x1)).heap[_]? = _ from by repeat rw [Below.heap_setCell _ _ _ _ (by simp <;> omega)])
  have n_R8 := R8.keep (show (((((w6.setCell ⟨w.heap.size + 1 + 1, 0, none⟩ (.int .i64 1)).setCell ⟨w.heap.size + 1 + 1, 1, none⟩ (.int .i64 q.number)).setCell ⟨w.heap.size + 1 + 1, 2, none⟩ (.int .i64 q.trail)).setCell ⟨w.heap.size + 1 + 1, 3, none⟩ (.int .i64 q.lead)).setCell ⟨w.heap.size + 1 + 1, 4, none⟩ (.string x1)).heap[_]? = _ from by repeat rw [Below.heap_setCell _ _ _ _ (by simp <;> omega)])
  have n_RP : Row (((((w6.setCell ⟨w.heap.size + 1 + 1, 0, none⟩ (.int .i64 1)).setCell ⟨w.heap.size + 1 + 1, 1, none⟩ (.int .i64 q.number)).setCell ⟨w.heap.size + 1 + 1, 2, none⟩ (.int .i64 q.trail)).setCell ⟨w.heap.size + 1 + 1, 3, none⟩ (.int .i64 q.lead)).setCell ⟨w.heap.size + 1 + 1, 4, none⟩ (.string x1)) (w.heap.size + 1 + 1) 41 [.int .i64 1, .int .i64 q.number, .int .i64 q.trail, .int .i64 q.lead, .string x1] := by simpa using (((((RP.set 0 (.int .i64 1)).set 1 (.int .i64 q.number)).set 2 (.int .i64 q.trail)).set 3 (.int .i64 q.lead)).set 4 (.string x1))
  have n_s5 := s5.frame (w' := (((((w6.setCell ⟨w.heap.size + 1 + 1, 0, none⟩ (.int .i64 1)).setCell ⟨w.heap.size + 1 + 1, 1, none⟩ (.int .i64 q.number)).setCell ⟨w.heap.size + 1 + 1, 2, none⟩ (.int .i64 q.trail)).setCell ⟨w.heap.size + 1 + 1, 3, none⟩ (.int .i64 q.lead)).setCell ⟨w.heap.size + 1 + 1, 4, none⟩ (.string x1))) fun b hb => by
    have h6 := hne5 b hb
    repeat rw [Below.heap_setCell _ _ _ _ (by simp <;> omega)]
  have n_hB : Below w.heap.size w (((((w6.setCell ⟨w.heap.size + 1 + 1, 0, none⟩ (.int .i64 1)).setCell ⟨w.heap.size + 1 + 1, 1, none⟩ (.int .i64 q.number)).setCell ⟨w.heap.size + 1 + 1, 2, none⟩ (.int .i64 q.trail)).setCell ⟨w.heap.size + 1 + 1, 3, none⟩ (.int .i64 q.lead)).setCell ⟨w.heap.size + 1 + 1, 4, none⟩ (.string x1)) := by
    repeat refine Below.setCell ?_ (by simp <;> omega) _
    exact hB
  clear hB R0 RZ RP RO R8 s5
  have hs_w7 : w6.heap.size ≤ (((((w6.setCell ⟨w.heap.size + 1 + 1, 0, none⟩ (.int .i64 1)).setCell ⟨w.heap.size + 1 + 1, 1, none⟩ (.int .i64 q.number)).setCell ⟨w.heap.size + 1 + 1, 2, none⟩ (.int .i64 q.trail)).setCell ⟨w.heap.size + 1 + 1, 3, none⟩ (.int .i64 q.lead)).setCell ⟨w.heap.size + 1 + 1, 4, none⟩ (.string x1)).heap.size := by simp
  generalize (((((w6.setCell ⟨w.heap.size + 1 + 1, 0, none⟩ (.int .i64 1)).setCell ⟨w.heap.size + 1 + 1, 1, none⟩ (.int .i64 q.number)).setCell ⟨w.heap.size + 1 + 1, 2, none⟩ (.int .i64 q.trail)).setCell ⟨w.heap.size + 1 + 1, 3, none⟩ (.int .i64 q.lead)).setCell ⟨w.heap.size + 1 + 1, 4, none⟩ (.string x1)) = w7 at *
  have hB := n_hB; clear n_hB
  have R0 := n_R0; clear n_R0
  have RZ := n_RZ; clear n_RZ
  have RP := n_RP; clear n_RP
  have RO := n_RO; clear n_RO
  have R8 := n_R8; clear n_R8
  have s5 := n_s5; clear n_s5
  clear hS
  have hS : (fun w' => w'.cell? ⟨w3.heap.size, 0, none⟩ = some (.int .i64 y.trail) ∧ w'.cell? ⟨w3.heap.size, 1, none⟩ = some (.int .i64 y.size) ∧ w'.cell? ⟨w3.heap.size, 2, none⟩ = some (.slice a5 y.items.length c5) ∧ w'.cell? ⟨w3.heap.size + 1, 0, none⟩ = some (.int .i64 1) ∧ w'.cell? ⟨w3.heap.size + 1, 1, none⟩ = some (.int .i64 q.number) ∧ w'.cell? ⟨w3.heap.size + 1, 2, none⟩ = some (.int .i64 q.trail) ∧ w'.cell? ⟨w3.heap.size + 1, 3, none⟩ = some (.int .i64 q.lead) ∧ w'.cell? ⟨w3.heap.size + 1, 4, none⟩ = some (.string x1)) w7 := ⟨RO.cells 0, RO.cells 1, RO.cells 2, R8.cells 0, R8.cells 1, R8.cells 2, R8.cells 3, R8.cells 4⟩
  refine hK.out _ _ (fun _ => hS) ?_
  clear hK K
  try simp only [Act.put, List.setIfInBounds_toArray, List.set_cons_zero, List.set_cons_succ]
  refine AnyX.only (i := 4) (o := _) (by kernel_rfl) (by rw [List.getElem?_toArray]; rfl) (fun K hK => ?_)
  try go_simp
  clear hS
  have hS : (fun w' => w'.cell? ⟨w3.heap.size, 0, none⟩ = some (.int .i64 y.trail) ∧ w'.cell? ⟨w3.heap.size, 1, none⟩ = some (.int .i64 y.size) ∧ w'.cell? ⟨w3.heap.size, 2, none⟩ = some (.slice a5 y.items.length c5) ∧ w'.cell? ⟨w3.heap.size + 1, 0, none⟩ = some (.int .i64 1) ∧ w'.cell? ⟨w3.heap.size + 1, 1, none⟩ = some (.int .i64 q.number) ∧ w'.cell? ⟨w3.heap.size + 1, 2, none⟩ = some (.int .i64 q.trail) ∧ w'.cell? ⟨w3.heap.size + 1, 3, none⟩ = some (.int .i64 q.lead) ∧ w'.cell? ⟨w3.heap.size + 1, 4, none⟩ = some (.string x1)) w7 := ⟨RO.cells 0, RO.cells 1, RO.cells 2, R8.cells 0, R8.cells 1, R8.cells 2, R8.cells 3, R8.cells 4⟩
  refine hK.out _ _ (fun _ => hS) ?_
  clear hK K
  try simp only [Act.put, List.setIfInBounds_toArray, List.set_cons_zero, List.set_cons_succ]
  refine AnyX.done (by kernel_rfl) ?_ _
  (try clear hS)
  refine hK0 _ _ ?_
  clear hK0 K0
  replace s5 := Lib.hid s5
  have c_R0 := R0.cells; have f_R0 := R0.frozens
  have c_RZ := RZ.cells; have f_RZ := RZ.frozens
  have c_RP := RP.cells; have f_RP := RP.frozens
  have c_RO := RO.cells; have f_RO := RO.frozens
  have c_R8 := R8.cells; have f_R8 := R8.frozens
  go_wp2_with fail
  refine bodyPost_ret (v := .tuple #[.agg #[.int .i64 y.trail, .int .i64 y.size, .slice a5 y.items.length c5], .agg #[.int .i64 1, .int .i64 q.number, .int .i64 q.trail, .int .i64 q.lead, .string x1], .bool true]) ?_ rfl ?_
  · simp [results, Tryd.results23, go_sem, c_RZ, f_RZ, c_RP, f_RP]
  · rw [hr.out]
    refine ⟨_, F5, _, [], rfl, ⟨_, rfl, _, rfl, s5.out⟩, ⟨_, rfl, by rw [hqk.out, hqd.out], by rw [hqd.out]; exact h1, rfl⟩, hB⟩
end Go.Proofs.YtnbccfnnamgfiaaDoor
