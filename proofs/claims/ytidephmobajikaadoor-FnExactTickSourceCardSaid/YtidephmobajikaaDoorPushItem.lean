/- Walks: PushItem, the program's. -/
import Derived.Test.YtidephmobajikaaDoorPush
namespace Go.Proofs.YtidephmobajikaaDoor
open Go.RowKit
def okPushItem (x : SendWindow) (s : ByteArray) : Bool := goodWin x && itm s
def resPushItem (x : SendWindow) (s : ByteArray) : SendWindow × Packet × Bool := if okPushItem x s then (pushedW x s, pushedP x s, true) else (⟨0, 0, []⟩, ⟨0, 0, 0, 0, ⟨#[]⟩⟩, false)
def PS_PushItem : SendWindow × Packet × Bool → World → Ending → World → Prop := fun (r0, r1, r2) w e w' => ∃ u0 G0 u1 G1, e = .returned (.tuple #[u0, u1, .bool r2]) ∧ IsV ESendWindow w' u0 r0 G0 ∧ IsV EPacket w' u1 r1 G1 ∧ Below w.heap.size w w'
def PI_PushItem : SendWindow × Packet × Bool → World → Ending → World → Prop := fun (r0, r1, r2) w e w' => ∃ u0 G0 u1 G1, e = .returned (.tuple #[u0, u1, .bool r2]) ∧ IsV OSendWindow w' u0 r0 G0 ∧ IsV EPacket w' u1 r1 G1 ∧ (G0 ++ G1).Nodup ∧ (∀ b ∈ G0 ++ G1, w.heap.size ≤ b) ∧ Below w.heap.size w w'
set_option maxHeartbeats 3200000 in
set_option maxRecDepth 100000 in
theorem PushItem_c (v0 : Value) (x0 : SendWindow) (F0 : List Nat) (x1 : ByteArray) (w : World) (h0 : IsV ESendWindow w v0 x0 F0) (h1 : x1.size ≤ maxLen) :
    Calls Tryd.prog 11 #[v0, .string x1] w (PI_PushItem (resPushItem x0 x1) w) := by
  have A0 := h0
  have lA0 := h0.lt
  obtain ⟨_, rfl, v0_1, rfl, h0_1⟩ := h0
  obtain ⟨a0_1, c0_1, rfl⟩ := h0_1.slice
  clear h0_1
  go_enter Tryd.func11, Tryd.ntmps11
  go_wp2_with fail
  have al : Below w.heap.size w (((w.alloc (.cells #[.int .i64 x0.trail, .int .i64 x0.size, .slice a0_1 x0.items.length c0_1] 26)).alloc (.cells #[.int .i64 0, .int .i64 0, .slice none 0 0] 26)).alloc (.cells #[.int .i64 0, .int .i64 0, .int .i64 0, .int .i64 0, .string ⟨#[]⟩] 30)) := by
    repeat refine Below.alloc ?_ (by simp <;> omega) _
    exact Below.refl _ _
  have n_R0 : Row (((w.alloc (.cells #[.int .i64 x0.trail, .int .i64 x0.size, .slice a0_1 x0.items.length c0_1] 26)).alloc (.cells #[.int .i64 0, .int .i64 0, .slice none 0 0] 26)).alloc (.cells #[.int .i64 0, .int .i64 0, .int .i64 0, .int .i64 0, .string ⟨#[]⟩] 30)) (w.heap.size) 26 [.int .i64 x0.trail, .int .i64 x0.size, .slice a0_1 x0.items.length c0_1] := by simp [row_alloc] <;> omega
  have n_RZ : Row (((w.alloc (.cells #[.int .i64 x0.trail, .int .i64 x0.size, .slice a0_1 x0.items.length c0_1] 26)).alloc (.cells #[.int .i64 0, .int .i64 0, .slice none 0 0] 26)).alloc (.cells #[.int .i64 0, .int .i64 0, .int .i64 0, .int .i64 0, .string ⟨#[]⟩] 30)) (w.heap.size + 1) 26 [.int .i64 0, .int .i64 0, .slice none 0 0] := by simp [row_alloc] <;> omega
  have n_RP : Row (((w.alloc (.cells #[.int .i64 x0.trail, .int .i64 x0.size, .slice a0_1 x0.items.length c0_1] 26)).alloc (.cells #[.int .i64 0, .int .i64 0, .slice none 0 0] 26)).alloc (.cells #[.int .i64 0, .int .i64 0, .int .i64 0, .int .i64 0, .string ⟨#[]⟩] 30)) (w.heap.size + 1 + 1) 30 [.int .i64 0, .int .i64 0, .int .i64 0, .int .i64 0, .string ⟨#[]⟩] := by simp [row_alloc] <;> omega
  have hs_w1 : w.heap.size + 1 + 1 < (((w.alloc (.cells #[.int .i64 x0.trail, .int .i64 x0.size, .slice a0_1 x0.items.length c0_1] 26)).alloc (.cells #[.int .i64 0, .int .i64 0, .slice none 0 0] 26)).alloc (.cells #[.int .i64 0, .int .i64 0, .int .i64 0, .int .i64 0, .string ⟨#[]⟩] 30)).heap.size := by simp <;> omega
  replace A0 := A0.below al
  have hB := al
  generalize (((w.alloc (.cells #[.int .i64 x0.trail, .int .i64 x0.size, .slice a0_1 x0.items.length c0_1] 26)).alloc (.cells #[.int .i64 0, .int .i64 0, .slice none 0 0] 26)).alloc (.cells #[.int .i64 0, .int .i64 0, .int .i64 0, .int .i64 0, .string ⟨#[]⟩] 30)) = w1 at *
  have R0 := n_R0; clear n_R0
  have RZ := n_RZ; clear n_RZ
  have RP := n_RP; clear n_RP
  clear al
  refine (IsValidSendWindow_c _ x0 F0 _ A0).mono ?_
  rintro e w2 ⟨rfl, hb⟩
  have hs_w2 := hb.size
  replace R0 := R0.below hb
  replace RZ := RZ.below hb
  replace RP := RP.below hb
  replace A0 := A0.below hb
  replace hB := tr hB hb (Nat.le_refl _)
  clear hb
  cases g1 : goodWin x0
  · have hr : resPushItem x0 x1 = (⟨0, 0, []⟩, ⟨0, 0, 0, 0, ⟨#[]⟩⟩, false) := by unfold resPushItem okPushItem; rw [g1]; simp
    replace hr := Lib.hid hr
    have c_R0 := R0.cells; have f_R0 := R0.frozens
    have c_RZ := RZ.cells; have f_RZ := RZ.frozens
    have c_RP := RP.cells; have f_RP := RP.frozens
    go_wp2_with fail
    refine bodyPost_ret (v := .tuple #[.agg #[.int .i64 0, .int .i64 0, .slice none 0 0], .agg #[.int .i64 0, .int .i64 0, .int .i64 0, .int .i64 0, .string ⟨#[]⟩], .bool false]) ?_ rfl ?_
    · simp [results, Tryd.results11, go_sem, c_RZ, f_RZ, c_RP, f_RP]
    · rw [hr.out]
      refine ⟨_, [], _, [], rfl, ⟨_, rfl, _, rfl, .inl ⟨rfl, rfl, rfl⟩⟩, ⟨_, rfl, rfl, by decide, rfl⟩, by simp, by simp, ?_⟩
      repeat refine Below.setCell ?_ (by simp <;> omega) _
      exact hB
  have gg := goodWin_iff.1 g1
  obtain ⟨⟨t0, t1⟩, ⟨z0, z1⟩, hlen, -⟩ := gg
  have c_R0 := R0.cells; have f_R0 := R0.frozens
  have c_RZ := RZ.cells; have f_RZ := RZ.frozens
  have c_RP := RP.cells; have f_RP := RP.frozens
  go_wp2_with fail
  clear c_R0 f_R0 c_RZ f_RZ c_RP f_RP
  refine (isItem_c _ _ h1).mono ?_
  rintro e w3 ⟨rfl, hb⟩
  have hs_w3 := hb.size
  replace R0 := R0.below hb
  replace RZ := RZ.below hb
  replace RP := RP.below hb
  replace A0 := A0.below hb
  replace hB := tr hB hb (Nat.le_refl _)
  clear hb
  cases g2 : itm x1
  · have hr : resPushItem x0 x1 = (⟨0, 0, []⟩, ⟨0, 0, 0, 0, ⟨#[]⟩⟩, false) := by unfold resPushItem okPushItem; rw [g1, g2]; simp
    replace hr := Lib.hid hr
    have c_R0 := R0.cells; have f_R0 := R0.frozens
    have c_RZ := RZ.cells; have f_RZ := RZ.frozens
    have c_RP := RP.cells; have f_RP := RP.frozens
    go_wp2_with fail
    refine bodyPost_ret (v := .tuple #[.agg #[.int .i64 0, .int .i64 0, .slice none 0 0], .agg #[.int .i64 0, .int .i64 0, .int .i64 0, .int .i64 0, .string ⟨#[]⟩], .bool false]) ?_ rfl ?_
    · simp [results, Tryd.results11, go_sem, c_RZ, f_RZ, c_RP, f_RP]
    · rw [hr.out]
      refine ⟨_, [], _, [], rfl, ⟨_, rfl, _, rfl, .inl ⟨rfl, rfl, rfl⟩⟩, ⟨_, rfl, rfl, by decide, rfl⟩, by simp, by simp, ?_⟩
      repeat refine Below.setCell ?_ (by simp <;> omega) _
      exact hB
  have hr : resPushItem x0 x1 = (pushedW x0 x1, pushedP x0 x1, true) := by
    unfold resPushItem okPushItem
    rw [g1, g2]; rfl
  replace hr := Lib.hid hr
  have c_R0 := R0.cells; have f_R0 := R0.frozens
  have c_RZ := RZ.cells; have f_RZ := RZ.frozens
  have c_RP := RP.cells; have f_RP := RP.frozens
  go_wp2_with fail
  clear c_R0 f_R0 c_RZ f_RZ c_RP f_RP
  refine (SendWindow_clone_c _ x0 F0 _ A0 (by omega)).mono ?_
  rintro e w4 ⟨_, F3, rfl, ⟨_, rfl, v3, rfl, o3⟩, n3, g3, hb⟩
  have hs_w4 := hb.size
  replace R0 := R0.below hb
  replace RZ := RZ.below hb
  replace RP := RP.below hb
  replace A0 := A0.below hb
  replace hB := tr hB hb (Nat.le_refl _)
  clear hb
  obtain ⟨a3, c3, rfl⟩ := o3.slice
  have l3 := o3.lt
  clear A0
  have c_R0 := R0.cells; have f_R0 := R0.frozens; have d_R0 := fun o => (R0.alloc o).cells; have e_R0 := fun o => (R0.alloc o).frozens
  have c_RZ := RZ.cells; have f_RZ := RZ.frozens; have d_RZ := fun o => (RZ.alloc o).cells; have e_RZ := fun o => (RZ.alloc o).frozens
  have c_RP := RP.cells; have f_RP := RP.frozens; have d_RP := fun o => (RP.alloc o).cells; have e_RP := fun o => (RP.alloc o).frozens
  go_wp2_with fail
  clear c_R0 f_R0 d_R0 e_R0 c_RZ f_RZ d_RZ e_RZ c_RP f_RP d_RP e_RP
  have al : Below w4.heap.size w4 (w4.alloc (.cells #[.int .i64 x0.trail, .int .i64 x0.size, .slice a3 x0.items.length c3] 26)) := by
    repeat refine Below.alloc ?_ (by simp <;> omega) _
    exact Below.refl _ _
  have n_RO := Row.made w4 26 [.int .i64 x0.trail, .int .i64 x0.size, .slice a3 x0.items.length c3]
  have hs_w5 : w4.heap.size < (w4.alloc (.cells #[.int .i64 x0.trail, .int .i64 x0.size, .slice a3 x0.items.length c3] 26)).heap.size := by simp
  replace R0 := R0.below al
  replace RZ := RZ.below al
  replace RP := RP.below al
  replace o3 := o3.below al
  replace hB := tr hB al (Nat.le_refl _)
  generalize (w4.alloc (.cells #[.int .i64 x0.trail, .int .i64 x0.size, .slice a3 x0.items.length c3] 26)) = w5 at *
  have RO := n_RO; clear n_RO
  clear al
  refine (SendWindow_push_c x0 x1 26 w4.heap.size 0 [] [] F3 _ ⟨_, by simpa using RO, rfl, ⟨_, rfl, o3⟩, n3, fun hm => by have := l3 _ hm; omega⟩ (by omega) (isSer_iff.2 ⟨t0, t1⟩) h1 z0).mono ?_
  rintro e w5 ⟨rfl, F5, ⟨_, hr5, -, ⟨v5, rfl, o5⟩, n5, -⟩, hF5, K⟩
  obtain ⟨a5, c5, rfl⟩ := o5.slice
  have hF5' : ∀ b ∈ F5, w.heap.size + 2 < b := fun b hb => by
    have := RP.lt
    rcases hF5 b hb with h | h
    · have := g3 b h; omega
    · omega
  have l5 := o5.lt
  have hs5 := K.size
  clear o3
  clear R0
  replace RZ := RZ.keepK K (fun hm => by
    rcases List.mem_cons.1 hm with h | h
    · omega
    · have := g3 _ h; omega)
  replace RP := RP.keepK K (fun hm => by
    rcases List.mem_cons.1 hm with h | h
    · omega
    · have := g3 _ h; omega)
  clear RO
  replace hB := hB.trans (K.below (B := w.heap.size) (by omega) (fun b hm => by
    rcases List.mem_cons.1 hm with h | h
    · omega
    · have := g3 _ h; omega))
  have RO : Row w5 w4.heap.size 26 [.int .i64 (pushedW x0 x1).trail, .int .i64 (pushedW x0 x1).size, .slice a5 (pushedW x0 x1).items.length c5] := by simpa using hr5
  clear K hr5
  obtain ⟨y, hy⟩ : ∃ y, y = pushedW x0 x1 := ⟨_, rfl⟩
  obtain ⟨q, hq⟩ : ∃ q, q = pushedP x0 x1 := ⟨_, rfl⟩
  rw [← hy] at RO o5
  have hr2 := hr.out
  rw [← hy, ← hq] at hr2
  rw [← hq]
  replace hr := Lib.hid hr2
  have hqk : q.kind = 1 := by rw [hq]; rfl
  have hqd : q.data = x1 := by rw [hq]; rfl
  clear hr2 hy hq
  replace hqk := Lib.hid hqk
  replace hqd := Lib.hid hqd
  have c_RZ := RZ.cells; have f_RZ := RZ.frozens; have d_RZ := fun o => (RZ.alloc o).cells; have e_RZ := fun o => (RZ.alloc o).frozens
  have c_RP := RP.cells; have f_RP := RP.frozens; have d_RP := fun o => (RP.alloc o).cells; have e_RP := fun o => (RP.alloc o).frozens
  have c_RO := RO.cells; have f_RO := RO.frozens; have d_RO := fun o => (RO.alloc o).cells; have e_RO := fun o => (RO.alloc o).frozens
  go_wp2_with fail
  clear c_RZ f_RZ d_RZ e_RZ c_RP f_RP d_RP e_RP c_RO f_RO d_RO e_RO
  have al : Below w5.heap.size w5 (w5.alloc (.cells #[.int .i64 1, .int .i64 q.number, .int .i64 q.trail, .int .i64 q.lead, .string x1] 30)) := by
    repeat refine Below.alloc ?_ (by simp <;> omega) _
    exact Below.refl _ _
  have n_R8 := Row.made w5 30 [.int .i64 1, .int .i64 q.number, .int .i64 q.trail, .int .i64 q.lead, .string x1]
  have hs_w6 : w5.heap.size < (w5.alloc (.cells #[.int .i64 1, .int .i64 q.number, .int .i64 q.trail, .int .i64 q.lead, .string x1] 30)).heap.size := by simp
  replace RZ := RZ.below al
  replace RP := RP.below al
  replace RO := RO.below al
  replace o5 := o5.below al
  replace hB := tr hB al (Nat.le_refl _)
  generalize (w5.alloc (.cells #[.int .i64 1, .int .i64 q.number, .int .i64 q.trail, .int .i64 q.lead, .string x1] 30)) = w6 at *
  have R8 := n_R8; clear n_R8
  clear al
  rename_i K0 hK0
  refine AnyX.start (S := (fun w' => w'.cell? ⟨w4.heap.size, 0, none⟩ = some (.int .i64 y.trail) ∧ w'.cell? ⟨w4.heap.size, 1, none⟩ = some (.int .i64 y.size) ∧ w'.cell? ⟨w4.heap.size, 2, none⟩ = some (.slice a5 y.items.length c5) ∧ w'.cell? ⟨w5.heap.size, 0, none⟩ = some (.int .i64 1) ∧ w'.cell? ⟨w5.heap.size, 1, none⟩ = some (.int .i64 q.number) ∧ w'.cell? ⟨w5.heap.size, 2, none⟩ = some (.int .i64 q.trail) ∧ w'.cell? ⟨w5.heap.size, 3, none⟩ = some (.int .i64 q.lead) ∧ w'.cell? ⟨w5.heap.size, 4, none⟩ = some (.string x1))) (X := (fun _ => false)) (by kernel_rfl) ?_
  have al : Below w6.heap.size w6 w6.drew := belowDrewN (Below.refl _ _) 1
  have hs_w7 := al.size
  replace RZ := RZ.below al
  replace RP := RP.below al
  replace RO := RO.below al
  replace R8 := R8.below al
  replace o5 := o5.below al
  replace hB := tr hB al (Nat.le_refl _)
  generalize w6.drew = w7 at *
  clear al
  have hS : (fun w' => w'.cell? ⟨w4.heap.size, 0, none⟩ = some (.int .i64 y.trail) ∧ w'.cell? ⟨w4.heap.size, 1, none⟩ = some (.int .i64 y.size) ∧ w'.cell? ⟨w4.heap.size, 2, none⟩ = some (.slice a5 y.items.length c5) ∧ w'.cell? ⟨w5.heap.size, 0, none⟩ = some (.int .i64 1) ∧ w'.cell? ⟨w5.heap.size, 1, none⟩ = some (.int .i64 q.number) ∧ w'.cell? ⟨w5.heap.size, 2, none⟩ = some (.int .i64 q.trail) ∧ w'.cell? ⟨w5.heap.size, 3, none⟩ = some (.int .i64 q.lead) ∧ w'.cell? ⟨w5.heap.size, 4, none⟩ = some (.string x1)) w7 := ⟨RO.cells 0, RO.cells 1, RO.cells 2, R8.cells 0, R8.cells 1, R8.cells 2, R8.cells 3, R8.cells 4⟩
  refine AnyX.take (i := 0) (oi := _) (v := ?_) (by rw [List.getElem?_toArray]; rfl) (by kernel_rfl) (by kernel_rfl) (by kernel_rfl) (by kernel_rfl) (by kernel_rfl) (by exact fun _ _ _ h => h) (Or.inl ⟨by rfl, ?_⟩) hS ?_
  rotate_left
  · (intro wS hSw; (try dsimp only at hSw); go_simp; try with_reducible rfl)
  try simp only [Act.put, List.setIfInBounds_toArray, List.set_cons_zero, List.set_cons_succ]
  refine AnyX.take (i := 1) (oi := _) (v := ?_) (by rw [List.getElem?_toArray]; rfl) (by kernel_rfl) (by kernel_rfl) (by kernel_rfl) (by kernel_rfl) (by kernel_rfl) (by exact fun _ _ _ h => h) (Or.inl ⟨by rfl, ?_⟩) hS ?_
  rotate_left
  · (intro wS hSw; (try dsimp only at hSw); go_simp; try with_reducible rfl)
  try simp only [Act.put, List.setIfInBounds_toArray, List.set_cons_zero, List.set_cons_succ]
  refine AnyX.only (i := 2) (o := _) (by kernel_rfl) (by rw [List.getElem?_toArray]; rfl) (fun K hK => ?_)
  have c_RZ := RZ.cells; have f_RZ := RZ.frozens
  have c_RP := RP.cells; have f_RP := RP.frozens
  have c_RO := RO.cells; have f_RO := RO.frozens
  have c_R8 := R8.cells; have f_R8 := R8.frozens
  go_simp
  clear c_RZ f_RZ c_RP f_RP c_RO f_RO c_R8 f_R8
  have n_RP := RP.keep (show (((w7.setCell ⟨w.heap.size + 1, 0, none⟩ (.int .i64 y.trail)).setCell ⟨w.heap.size + 1, 1, none⟩ (.int .i64 y.size)).setCell ⟨w.heap.size + 1, 2, none⟩ (.slice a5 y.items.length c5)).heap[_]? = _ from by repeat rw [Below.heap_setCell _ _ _ _ (by simp <;> omega)])
  have n_RO := RO.keep (show (((w7.setCell ⟨w.heap.size + 1, 0, none⟩ (.int .i64 y.trail)).setCell ⟨w.heap.size + 1, 1, none⟩ (.int .i64 y.size)).setCell ⟨w.heap.size + 1, 2, none⟩ (.slice a5 y.items.length c5)).heap[_]? = _ from by repeat rw [Below.heap_setCell _ _ _ _ (by simp <;> omega)])
  have n_R8 := R8.keep (show (((w7.setCell ⟨w.heap.size + 1, 0, none⟩ (.int .i64 y.trail)).setCell ⟨w.heap.size + 1, 1, none⟩ (.int .i64 y.size)).setCell ⟨w.heap.size + 1, 2, none⟩ (.slice a5 y.items.length c5)).heap[_]? = _ from by repeat rw [Below.heap_setCell _ _ _ _ (by simp <;> omega)])
  have n_RZ : Row (((w7.setCell ⟨w.heap.size + 1, 0, none⟩ (.int .i64 y.trail)).setCell ⟨w.heap.size + 1, 1, none⟩ (.int .i64 y.size)).setCell ⟨w.heap.size + 1, 2, none⟩ (.slice a5 y.items.length c5)) (w.heap.size + 1) 26 [.int .i64 y.trail, .int .i64 y.size, .slice a5 y.items.length c5] := by simpa using (((RZ.set 0 (.int .i64 y.trail)).set 1 (.int .i64 y.size)).set 2 (.slice a5 y.items.length c5))
  have n_o5 := o5.frame (w' := (((w7.setCell ⟨w.heap.size + 1, 0, none⟩ (.int .i64 y.trail)).setCell ⟨w.heap.size + 1, 1, none⟩ (.int .i64 y.size)).setCell ⟨w.heap.size + 1, 2, none⟩ (.slice a5 y.items.length c5))) fun b hb => by
    have h6 := hF5' b hb
    repeat rw [Below.heap_setCell _ _ _ _ (by simp <;> omega)]
  have n_hB : Below w.heap.size w (((w7.setCell ⟨w.heap.size + 1, 0, none⟩ (.int .i64 y.trail)).setCell ⟨w.heap.size + 1, 1, none⟩ (.int .i64 y.size)).setCell ⟨w.heap.size + 1, 2, none⟩ (.slice a5 y.items.length c5)) := by
    repeat refine Below.setCell ?_ (by simp <;> omega) _
    exact hB
  clear hB RZ RP RO R8 o5
  have hs_w8 : w7.heap.size ≤ (((w7.setCell ⟨w.heap.size + 1, 0, none⟩ (.int .i64 y.trail)).setCell ⟨w.heap.size + 1, 1, none⟩ (.int .i64 y.size)).setCell ⟨w.heap.size + 1, 2, none⟩ (.slice a5 y.items.length c5)).heap.size := by simp
  generalize (((w7.setCell ⟨w.heap.size + 1, 0, none⟩ (.int .i64 y.trail)).setCell ⟨w.heap.size + 1, 1, none⟩ (.int .i64 y.size)).setCell ⟨w.heap.size + 1, 2, none⟩ (.slice a5 y.items.length c5)) = w8 at *
  have hB := n_hB; clear n_hB
  have RZ := n_RZ; clear n_RZ
  have RP := n_RP; clear n_RP
  have RO := n_RO; clear n_RO
  have R8 := n_R8; clear n_R8
  have o5 := n_o5; clear n_o5
  clear hS
  have hS : (fun w' => w'.cell? ⟨w4.heap.size, 0, none⟩ = some (.int .i64 y.trail) ∧ w'.cell? ⟨w4.heap.size, 1, none⟩ = some (.int .i64 y.size) ∧ w'.cell? ⟨w4.heap.size, 2, none⟩ = some (.slice a5 y.items.length c5) ∧ w'.cell? ⟨w5.heap.size, 0, none⟩ = some (.int .i64 1) ∧ w'.cell? ⟨w5.heap.size, 1, none⟩ = some (.int .i64 q.number) ∧ w'.cell? ⟨w5.heap.size, 2, none⟩ = some (.int .i64 q.trail) ∧ w'.cell? ⟨w5.heap.size, 3, none⟩ = some (.int .i64 q.lead) ∧ w'.cell? ⟨w5.heap.size, 4, none⟩ = some (.string x1)) w8 := ⟨RO.cells 0, RO.cells 1, RO.cells 2, R8.cells 0, R8.cells 1, R8.cells 2, R8.cells 3, R8.cells 4⟩
  refine hK.out _ _ (fun _ => hS) ?_
  clear hK K
  try simp only [Act.put, List.setIfInBounds_toArray, List.set_cons_zero, List.set_cons_succ]
  refine AnyX.only (i := 3) (o := _) (by kernel_rfl) (by rw [List.getElem?_toArray]; rfl) (fun K hK => ?_)
  have c_RZ := RZ.cells; have f_RZ := RZ.frozens
  have c_RP := RP.cells; have f_RP := RP.frozens
  have c_RO := RO.cells; have f_RO := RO.frozens
  have c_R8 := R8.cells; have f_R8 := R8.frozens
  go_simp
  clear c_RZ f_RZ c_RP f_RP c_RO f_RO c_R8 f_R8
  have n_RZ := RZ.keep (show (((((w8.setCell ⟨w.heap.size + 1 + 1, 0, none⟩ (.int .i64 1)).setCell ⟨w.heap.size + 1 + 1, 1, none⟩ (.int .i64 q.number)).setCell ⟨w.heap.size + 1 + 1, 2, none⟩ (.int .i64 q.trail)).setCell ⟨w.heap.size + 1 + 1, 3, none⟩ (.int .i64 q.lead)).setCell ⟨w.heap.size + 1 + 1, 4, none⟩ (.string x1)).heap[_]? = _ from by repeat rw [Below.heap_setCell _ _ _ _ (by simp <;> omega)])
  have n_RO := RO.keep (show (((((w8.setCell ⟨w.heap.size + 1 + 1, 0, none⟩ (.int .i64 1)).setCell ⟨w.heap.size + 1 + 1, 1, none⟩ (.int .i64 q.number)).setCell ⟨w.heap.size + 1 + 1, 2, none⟩ (.int .i64 q.trail)).setCell ⟨w.heap.size + 1 + 1, 3, none⟩ (.int .i64 q.lead)).setCell ⟨w.heap.size + 1 + 1, 4, none⟩ (.string x1)).heap[_]? = _ from by repeat rw [Below.heap_setCell _ _ _ _ (by simp <;> omega)])
  have n_R8 := R8.keep (show (((((w8.setCell ⟨w.heap.size + 1 + 1, 0, none⟩ (.int .i64 1)).setCell ⟨w.heap.size + 1 + 1, 1, none⟩ (.int .i64 q.number)).setCell ⟨w.heap.size + 1 + 1, 2, none⟩ (.int .i64 q.trail)).setCell ⟨w.heap.size + 1 + 1, 3, none⟩ (.int .i64 q.lead)).setCell ⟨w.heap.size + 1 + 1, 4, none⟩ (.string x1)).heap[_]? = _ from by repeat rw [Below.heap_setCell _ _ _ _ (by simp <;> omega)])
  have n_RP : Row (((((w8.setCell ⟨w.heap.size + 1 + 1, 0, none⟩ (.int .i64 1)).setCell ⟨w.heap.size + 1 + 1, 1, none⟩ (.int .i64 q.number)).setCell ⟨w.heap.size + 1 + 1, 2, none⟩ (.int .i64 q.trail)).setCell ⟨w.heap.size + 1 + 1, 3, none⟩ (.int .i64 q.lead)).setCell ⟨w.heap.size + 1 + 1, 4, none⟩ (.string x1)) (w.heap.size + 1 + 1) 30 [.int .i64 1, .int .i64 q.number, .int .i64 q.trail, .int .i64 q.lead, .string x1] := by simpa using (((((RP.set 0 (.int .i64 1)).set 1 (.int .i64 q.number)).set 2 (.int .i64 q.trail)).set 3 (.int .i64 q.lead)).set 4 (.string x1))
  have n_o5 := o5.frame (w' := (((((w8.setCell ⟨w.heap.size + 1 + 1, 0, none⟩ (.int .i64 1)).setCell ⟨w.heap.size + 1 + 1, 1, none⟩ (.int .i64 q.number)).setCell ⟨w.heap.size + 1 + 1, 2, none⟩ (.int .i64 q.trail)).setCell ⟨w.heap.size + 1 + 1, 3, none⟩ (.int .i64 q.lead)).setCell ⟨w.heap.size + 1 + 1, 4, none⟩ (.string x1))) fun b hb => by
    have h6 := hF5' b hb
    repeat rw [Below.heap_setCell _ _ _ _ (by simp <;> omega)]
  have n_hB : Below w.heap.size w (((((w8.setCell ⟨w.heap.size + 1 + 1, 0, none⟩ (.int .i64 1)).setCell ⟨w.heap.size + 1 + 1, 1, none⟩ (.int .i64 q.number)).setCell ⟨w.heap.size + 1 + 1, 2, none⟩ (.int .i64 q.trail)).setCell ⟨w.heap.size + 1 + 1, 3, none⟩ (.int .i64 q.lead)).setCell ⟨w.heap.size + 1 + 1, 4, none⟩ (.string x1)) := by
    repeat refine Below.setCell ?_ (by simp <;> omega) _
    exact hB
  clear hB RZ RP RO R8 o5
  have hs_w9 : w8.heap.size ≤ (((((w8.setCell ⟨w.heap.size + 1 + 1, 0, none⟩ (.int .i64 1)).setCell ⟨w.heap.size + 1 + 1, 1, none⟩ (.int .i64 q.number)).setCell ⟨w.heap.size + 1 + 1, 2, none⟩ (.int .i64 q.trail)).setCell ⟨w.heap.size + 1 + 1, 3, none⟩ (.int .i64 q.lead)).setCell ⟨w.heap.size + 1 + 1, 4, none⟩ (.string x1)).heap.size := by simp
  generalize (((((w8.setCell ⟨w.heap.size + 1 + 1, 0, none⟩ (.int .i64 1)).setCell ⟨w.heap.size + 1 + 1, 1, none⟩ (.int .i64 q.number)).setCell ⟨w.heap.size + 1 + 1, 2, none⟩ (.int .i64 q.trail)).setCell ⟨w.heap.size + 1 + 1, 3, none⟩ (.int .i64 q.lead)).setCell ⟨w.heap.size + 1 + 1, 4, none⟩ (.string x1)) = w9 at *
  have hB := n_hB; clear n_hB
  have RZ := n_RZ; clear n_RZ
  have RP := n_RP; clear n_RP
  have RO := n_RO; clear n_RO
  have R8 := n_R8; clear n_R8
  have o5 := n_o5; clear n_o5
  clear hS
  have hS : (fun w' => w'.cell? ⟨w4.heap.size, 0, none⟩ = some (.int .i64 y.trail) ∧ w'.cell? ⟨w4.heap.size, 1, none⟩ = some (.int .i64 y.size) ∧ w'.cell? ⟨w4.heap.size, 2, none⟩ = some (.slice a5 y.items.length c5) ∧ w'.cell? ⟨w5.heap.size, 0, none⟩ = some (.int .i64 1) ∧ w'.cell? ⟨w5.heap.size, 1, none⟩ = some (.int .i64 q.number) ∧ w'.cell? ⟨w5.heap.size, 2, none⟩ = some (.int .i64 q.trail) ∧ w'.cell? ⟨w5.heap.size, 3, none⟩ = some (.int .i64 q.lead) ∧ w'.cell? ⟨w5.heap.size, 4, none⟩ = some (.string x1)) w9 := ⟨RO.cells 0, RO.cells 1, RO.cells 2, R8.cells 0, R8.cells 1, R8.cells 2, R8.cells 3, R8.cells 4⟩
  refine hK.out _ _ (fun _ => hS) ?_
  clear hK K
  try simp only [Act.put, List.setIfInBounds_toArray, List.set_cons_zero, List.set_cons_succ]
  refine AnyX.only (i := 4) (o := _) (by kernel_rfl) (by rw [List.getElem?_toArray]; rfl) (fun K hK => ?_)
  try go_simp
  clear hS
  have hS : (fun w' => w'.cell? ⟨w4.heap.size, 0, none⟩ = some (.int .i64 y.trail) ∧ w'.cell? ⟨w4.heap.size, 1, none⟩ = some (.int .i64 y.size) ∧ w'.cell? ⟨w4.heap.size, 2, none⟩ = some (.slice a5 y.items.length c5) ∧ w'.cell? ⟨w5.heap.size, 0, none⟩ = some (.int .i64 1) ∧ w'.cell? ⟨w5.heap.size, 1, none⟩ = some (.int .i64 q.number) ∧ w'.cell? ⟨w5.heap.size, 2, none⟩ = some (.int .i64 q.trail) ∧ w'.cell? ⟨w5.heap.size, 3, none⟩ = some (.int .i64 q.lead) ∧ w'.cell? ⟨w5.heap.size, 4, none⟩ = some (.string x1)) w9 := ⟨RO.cells 0, RO.cells 1, RO.cells 2, R8.cells 0, R8.cells 1, R8.cells 2, R8.cells 3, R8.cells 4⟩
  refine hK.out _ _ (fun _ => hS) ?_
  clear hK K
  try simp only [Act.put, List.setIfInBounds_toArray, List.set_cons_zero, List.set_cons_succ]
  refine AnyX.done (by kernel_rfl) ?_ _
  (try clear hS)
  refine hK0 _ _ ?_
  clear hK0 K0
  replace o5 := Lib.hid o5
  have c_RZ := RZ.cells; have f_RZ := RZ.frozens
  have c_RP := RP.cells; have f_RP := RP.frozens
  have c_RO := RO.cells; have f_RO := RO.frozens
  have c_R8 := R8.cells; have f_R8 := R8.frozens
  go_wp2_with fail
  refine bodyPost_ret (v := .tuple #[.agg #[.int .i64 y.trail, .int .i64 y.size, .slice a5 y.items.length c5], .agg #[.int .i64 1, .int .i64 q.number, .int .i64 q.trail, .int .i64 q.lead, .string x1], .bool true]) ?_ rfl ?_
  · simp [results, Tryd.results11, go_sem, c_RZ, f_RZ, c_RP, f_RP]
  · rw [hr.out]
    refine ⟨_, F5, _, [], rfl, ⟨_, rfl, _, rfl, o5.out⟩, ⟨_, rfl, by rw [hqk.out, hqd.out], by rw [hqd.out]; exact h1, rfl⟩, by simpa using n5, fun b hb => by have := hF5' b (by simpa using hb); omega, hB⟩
end Go.Proofs.YtidephmobajikaaDoor
