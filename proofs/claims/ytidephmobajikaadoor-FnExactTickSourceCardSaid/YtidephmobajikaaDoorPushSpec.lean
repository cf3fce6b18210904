/- Walks: the reference's push of an item. -/
import Derived.Test.YtidephmobajikaaDoorPushItem
namespace Go.Proofs.YtidephmobajikaaDoor
open Go.RowKit
theorem aft_zero {t : Int} (h0 : 0 ≤ t) (h1 : t ≤ 65535) : aft t 0 = t := by unfold aft; omega
set_option maxHeartbeats 3200000 in
set_option maxRecDepth 100000 in
theorem l9Push_c (v0 : Value) (x0 : SendWindow) (F0 : List Nat) (s : ByteArray) (w : World) (h0 : IsV ESendWindow w v0 x0 F0) (hl : x0.items.length ≤ 6) (t0 : 0 ≤ x0.trail) (t1 : x0.trail ≤ 65535) (hs : s.size ≤ maxLen) (hz : 1 ≤ x0.size) :
    Calls Tryd.prog 100 #[v0, .string s] w fun e w' => ∃ u G, e = .returned (.tuple #[u, .agg #[.int .i64 1, .int .i64 (pushedP x0 s).number, .int .i64 (pushedP x0 s).trail, .int .i64 (pushedP x0 s).lead, .string s]]) ∧ IsV ESendWindow w' u (pushedW x0 s) G ∧ (∀ b ∈ G, w.heap.size ≤ b) ∧ Below w.heap.size w w' := by
  have A0 := h0
  have lA0 := h0.lt
  obtain ⟨_, rfl, v0_1, rfl, h0_1⟩ := h0
  obtain ⟨a0_1, c0_1, rfl⟩ := h0_1.slice
  clear h0_1
  go_enter Tryd.func100, Tryd.ntmps100
  go_wp2_with fail
  have al : Below w.heap.size w (((w.alloc (.cells #[.int .i64 x0.trail, .int .i64 x0.size, .slice a0_1 x0.items.length c0_1] 26)).alloc (.cells #[.int .i64 0, .int .i64 0, .slice none 0 0] 26)).alloc (.cells #[.int .i64 0, .int .i64 0, .int .i64 0, .int .i64 0, .string ⟨#[]⟩] 30)) := by
    repeat refine Below.alloc ?_ (by simp <;> omega) _
    exact Below.refl _ _
  have n_R0 : Row (((w.alloc (.cells #[.int .i64 x0.trail, .int .i64 x0.size, .slice a0_1 x0.items.length c0_1] 26)).alloc (.cells #[.int .i64 0, .int .i64 0, .slice none 0 0] 26)).alloc (.cells #[.int .i64 0, .int .i64 0, .int .i64 0, .int .i64 0, .string ⟨#[]⟩] 30)) (w.heap.size) 26 [.int .i64 x0.trail, .int .i64 x0.size, .slice a0_1 x0.items.length c0_1] := by simp [row_alloc] <;> omega
  have n_RZ : Row (((w.alloc (.cells #[.int .i64 x0.trail, .int .i64 x0.size, .slice a0_1 x0.items.length c0_1] 26)).alloc (.cells #[.int .i64 0, .int .i64 0, .slice none 0 0] 26)).alloc (.cells #[.int .i64 0, .int .i64 0, .int .i64 0, .int .i64 0, .string ⟨#[]⟩] 30)) (w.heap.size + 1) 26 [.int .i64 0, .int .i64 0, .slice none 0 0] := by simp [row_alloc] <;> omega
  have n_RP : Row (((w.alloc (.cells #[.int .i64 x0.trail, .int .i64 x0.size, .slice a0_1 x0.items.length c0_1] 26)).alloc (.cells #[.int .i64 0, .int .i64 0, .slice none 0 0] 26)).alloc (.cells #[.int .i64 0, .int .i64 0, .int .i64 0, .int .i64 0, .string ⟨#[]⟩] 30)) (w.heap.size + 1 + 1) 30 [.int .i64 0, .int .i64 0, .int .i64 0, .int .i64 0, .string ⟨#[]⟩] := by simp [row_alloc] <;> omega
  have hs_w1 : w.heap.size + 1 + 1 < (((w.alloc (.cells #[.int .i64 x0.trail, .int .i64 x0.size, .slice a0_1 x0.items.length c0_1] 26)).alloc (.cells #[.int .i64 0, .int .i64 0, .slice none 0 0] 26)).alloc (.cells #[.int .i64 0, .int .i64 0, .int .i64 0, .int .i64 0, .string ⟨#[]⟩] 30)).heap.size := by simp <;> omega
  replace A0 := A0.below al
  have hB := al
  generalize (((w.alloc (.cells #[.int .i64 x0.trail, .int .i64 x0.size, .slice a0_1 x0.items.length c0_1] 26)).alloc (.cells #[.int .i64 0, .int .i64 0, .slice none 0 0] 26)).alloc (.cells #[.int .i64 0, .int .i64 0, .int .i64 0, .int .i64 0, .string ⟨#[]⟩] 30)) = w1 at *
  have R0 := n_R0; clear n_R0
  have RZ := n_RZ; clear n_RZ
  have RP := n_RP; clear n_RP
  clear al
  obtain ⟨y, hy_y⟩ : ∃ y, y = (⟨aft x0.trail ((0 : Nat) : Int), x0.size, x0.items.drop 0⟩ : SendWindow) := ⟨_, rfl⟩
  have hd := l9Drop_c _ x0 F0 0 _ A0 (by omega) (by omega) (isSer_iff.2 ⟨t0, t1⟩)
  rw [← hy_y] at hd
  replace hy_y := Lib.hid hy_y
  refine (hd).mono ?_
  rintro e w2 ⟨_, F5, rfl, ⟨_, rfl, v3, rfl, o5⟩, n5, g5, hb⟩
  have hs_w2 := hb.size
  replace R0 := R0.below hb
  replace RZ := RZ.below hb
  replace RP := RP.below hb
  replace A0 := A0.below hb
  replace hB := tr hB hb (Nat.le_refl _)
  clear hb
  clear hd
  obtain ⟨a5, c5, rfl⟩ := o5.slice
  have l5 := o5.lt
  by_cases hf : (x0.items.length : Int) = x0.size
  · have c_R0 := R0.cells; have f_R0 := R0.frozens; have d_R0 := fun o => (R0.alloc o).cells; have e_R0 := fun o => (R0.alloc o).frozens
    have c_RZ := RZ.cells; have f_RZ := RZ.frozens; have d_RZ := fun o => (RZ.alloc o).cells; have e_RZ := fun o => (RZ.alloc o).frozens
    have c_RP := RP.cells; have f_RP := RP.frozens; have d_RP := fun o => (RP.alloc o).cells; have e_RP := fun o => (RP.alloc o).frozens
    go_wp2_with fail
    clear c_R0 f_R0 d_R0 e_R0 c_RZ f_RZ d_RZ e_RZ c_RP f_RP d_RP e_RP
    have al : Below w2.heap.size w2 (w2.alloc (.cells #[.int .i64 y.trail, .int .i64 y.size, .slice a5 y.items.length c5] 26)) := by
      repeat refine Below.alloc ?_ (by simp <;> omega) _
      exact Below.refl _ _
    have n_RO := Row.made w2 26 [.int .i64 y.trail, .int .i64 y.size, .slice a5 y.items.length c5]
    have hs_w3 : w2.heap.size < (w2.alloc (.cells #[.int .i64 y.trail, .int .i64 y.size, .slice a5 y.items.length c5] 26)).heap.size := by simp
    replace R0 := R0.below al
    replace RZ := RZ.below al
    replace RP := RP.below al
    replace A0 := A0.below al
    replace o5 := o5.below al
    replace hB := tr hB al (Nat.le_refl _)
    generalize (w2.alloc (.cells #[.int .i64 y.trail, .int .i64 y.size, .slice a5 y.items.length c5] 26)) = w3 at *
    have RO := n_RO; clear n_RO
    clear al
    clear o5
    obtain ⟨y2, hy_y2⟩ : ∃ y, y = (⟨aft x0.trail ((1 : Nat) : Int), x0.size, x0.items.drop 1⟩ : SendWindow) := ⟨_, rfl⟩
    have hd := l9Drop_c _ x0 F0 1 _ A0 (by omega) (by omega) (isSer_iff.2 ⟨t0, t1⟩)
    rw [← hy_y2] at hd
    replace hy_y2 := Lib.hid hy_y2
    refine (hd).mono ?_
    rintro e w4 ⟨_, F7b, rfl, ⟨_, rfl, v3, rfl, o7b⟩, n7, g7, hb⟩
    have hs_w4 := hb.size
    replace R0 := R0.below hb
    replace RZ := RZ.below hb
    replace RP := RP.below hb
    replace RO := RO.below hb
    replace A0 := A0.below hb
    replace hB := tr hB hb (Nat.le_refl _)
    clear hb
    clear hd
    obtain ⟨a7, c7, rfl⟩ := o7b.slice
    have l7 := o7b.lt
    clear A0
    replace o7b := Lib.hid o7b
    have c_R0 := R0.cells; have f_R0 := R0.frozens
    have c_RZ := RZ.cells; have f_RZ := RZ.frozens
    have c_RP := RP.cells; have f_RP := RP.frozens
    have c_RO := RO.cells; have f_RO := RO.frozens
    go_wp2_with fail
    clear c_R0 f_R0 c_RZ f_RZ c_RP f_RP c_RO f_RO
    replace o7b := o7b.out
    have hlo := RO.lt
    have n_R0 := R0.keep (show (((w4.setCell ⟨w2.heap.size, 0, none⟩ (.int .i64 y2.trail)).setCell ⟨w2.heap.size, 1, none⟩ (.int .i64 y2.size)).setCell ⟨w2.heap.size, 2, none⟩ (.slice a7 y2.items.length c7)).heap[_]? = _ from by repeat rw [Below.heap_setCell _ _ _ _ (by simp <;> omega)])
    have n_RZ := RZ.keep (show (((w4.setCell ⟨w2.heap.size, 0, none⟩ (.int .i64 y2.trail)).setCell ⟨w2.heap.size, 1, none⟩ (.int .i64 y2.size)).setCell ⟨w2.heap.size, 2, none⟩ (.slice a7 y2.items.length c7)).heap[_]? = _ from by repeat rw [Below.heap_setCell _ _ _ _ (by simp <;> omega)])
    have n_RP := RP.keep (show (((w4.setCell ⟨w2.heap.size, 0, none⟩ (.int .i64 y2.trail)).setCell ⟨w2.heap.size, 1, none⟩ (.int .i64 y2.size)).setCell ⟨w2.heap.size, 2, none⟩ (.slice a7 y2.items.length c7)).heap[_]? = _ from by repeat rw [Below.heap_setCell _ _ _ _ (by simp <;> omega)])
    have n_RO : Row (((w4.setCell ⟨w2.heap.size, 0, none⟩ (.int .i64 y2.trail)).setCell ⟨w2.heap.size, 1, none⟩ (.int .i64 y2.size)).setCell ⟨w2.heap.size, 2, none⟩ (.slice a7 y2.items.length c7)) (w2.heap.size) 26 [.int .i64 y2.trail, .int .i64 y2.size, .slice a7 y2.items.length c7] := by simpa using (((RO.set 0 (.int .i64 y2.trail)).set 1 (.int .i64 y2.size)).set 2 (.slice a7 y2.items.length c7))
    have n_o7b := o7b.frame (w' := (((w4.setCell ⟨w2.heap.size, 0, none⟩ (.int .i64 y2.trail)).setCell ⟨w2.heap.size, 1, none⟩ (.int .i64 y2.size)).setCell ⟨w2.heap.size, 2, none⟩ (.slice a7 y2.items.length c7))) fun b hb => by
      have h6 := g7 b hb
      repeat rw [Below.heap_setCell _ _ _ _ (by simp <;> omega)]
    have n_hB : Below w.heap.size w (((w4.setCell ⟨w2.heap.size, 0, none⟩ (.int .i64 y2.trail)).setCell ⟨w2.heap.size, 1, none⟩ (.int .i64 y2.size)).setCell ⟨w2.heap.size, 2, none⟩ (.slice a7 y2.items.length c7)) := by
      repeat refine Below.setCell ?_ (by simp <;> omega) _
      exact hB
    clear hB R0 RZ RP RO o7b
    have hs_w5 : w4.heap.size ≤ (((w4.setCell ⟨w2.heap.size, 0, none⟩ (.int .i64 y2.trail)).setCell ⟨w2.heap.size, 1, none⟩ (.int .i64 y2.size)).setCell ⟨w2.heap.size, 2, none⟩ (.slice a7 y2.items.length c7)).heap.size := by simp
    generalize (((w4.setCell ⟨w2.heap.size, 0, none⟩ (.int .i64 y2.trail)).setCell ⟨w2.heap.size, 1, none⟩ (.int .i64 y2.size)).setCell ⟨w2.heap.size, 2, none⟩ (.slice a7 y2.items.length c7)) = w5 at *
    have hB := n_hB; clear n_hB
    have R0 := n_R0; clear n_R0
    have RZ := n_RZ; clear n_RZ
    have RP := n_RP; clear n_RP
    have RO := n_RO; clear n_RO
    have o7b := n_o7b; clear n_o7b
    have hry : roomed x0 = y2 := by unfold roomed; rw [if_pos hf, hy_y2.out]; rfl
    replace hry := Lib.hid hry
    have hyt0 : 0 ≤ y2.trail := by rw [hy_y2.out]; exact (aft_bd _ _).1
    have hyt1 : y2.trail ≤ 65535 := by rw [hy_y2.out]; exact (aft_bd _ _).2
    have hyl : y2.items.length ≤ 6 := by rw [hy_y2.out]; simp; omega
    have hyz : y2.size = x0.size := by rw [hy_y2.out]
    replace hyz := Lib.hid hyz
    have hnum : aft y2.trail y2.items.length = aft x0.trail x0.items.length := by
      rw [hy_y2.out, ← aft_aft x0.trail x0.items.length]
      have h1 : ((x0.items.drop 1).length : Int) = (x0.items.length : Int) - 1 := by simp; omega
      rw [← h1]; rfl
    replace hnum := Lib.hid hnum
    clear hy_y2 hy_y hf
    have hne : ∀ b ∈ F7b, b ≠ w2.heap.size := fun b hb => by have := g7 b hb; omega
    have g5 : ∀ b ∈ F7b, w.heap.size + 2 < b := fun b hb => by have := g7 b hb; omega
    refine (l9Lead_c y2.trail y2.size a7 y2.items.length c7 _ hyt0 hyt1 (by omega)).mono ?_
    rintro e w6_ ⟨rfl, hb⟩
    have hs_w6_ := hb.size
    replace R0 := R0.below hb
    replace RZ := RZ.below hb
    replace RP := RP.below hb
    replace RO := RO.below hb
    replace o7b := o7b.below hb
    replace hB := tr hB hb (Nat.le_refl _)
    clear hb
    rw [hnum.out]
    have lR := RO.lt
    have c_R0 := R0.cells; have f_R0 := R0.frozens; have d_R0 := fun o => (R0.alloc o).cells; have e_R0 := fun o => (R0.alloc o).frozens
    have c_RZ := RZ.cells; have f_RZ := RZ.frozens; have d_RZ := fun o => (RZ.alloc o).cells; have e_RZ := fun o => (RZ.alloc o).frozens
    have c_RP := RP.cells; have f_RP := RP.frozens; have d_RP := fun o => (RP.alloc o).cells; have e_RP := fun o => (RP.alloc o).frozens
    have c_RO := RO.cells; have f_RO := RO.frozens; have d_RO := fun o => (RO.alloc o).cells; have e_RO := fun o => (RO.alloc o).frozens
    go_wp2_with (at_builtin; refine wpList_apd one_EStr (by decide) (by rfl) _ _ _ (by rfl) 9 (.string ⟨#[]⟩) 16 Tryd.underlying24 info_string rfl (.slice a7 y2.items.length c7) y2.items F7b (by rfl) (o7b.below ((Below.refl _ _).alloc (Nat.le_refl _) _)) (Hd.of n7) (some ⟨w6_.heap.size, 0, none⟩) [s] 1 (by rfl) [.string s] [] (str_flat (xs := [s]) _ (by simpa using hs)) (.inr ⟨_, rfl, one_src _ _ _⟩) (by simp) (by simp; unfold maxLen; omega) (by simp; omega) ?_)
    clear c_R0 f_R0 d_R0 e_R0 c_RZ f_RZ d_RZ e_RZ c_RP f_RP d_RP e_RP c_RO f_RO d_RO e_RO
    intro v6 w7 F6 hA
    have o6 := hA.ow
    have m6 := hA.mem
    have K6 := hA.keep
    have hs_w7 := K6.size
    obtain ⟨a6, c6, rfl⟩ := o6.slice
    clear hA
    replace R0 := (R0.alloc (.cells #[.string s] 9)).keepK K6 (fun hm => by have h1 := g5 _ hm; omega)
    replace RZ := (RZ.alloc (.cells #[.string s] 9)).keepK K6 (fun hm => by have h1 := g5 _ hm; omega)
    replace RP := (RP.alloc (.cells #[.string s] 9)).keepK K6 (fun hm => by have h1 := g5 _ hm; omega)
    replace RO := (RO.alloc (.cells #[.string s] 9)).keepK K6 (fun hm => hne _ hm rfl)
    replace hB := (tr hB ((Below.refl _ _).alloc (Nat.le_refl _) (.cells #[.string s] 9)) (Nat.le_refl _)).trans (K6.below (B := w.heap.size) (by simp; omega) (fun b hm => by have h1 := g5 _ hm; omega))
    have g6 : ∀ b ∈ F6, b ≠ w2.heap.size ∧ w.heap.size + 2 < b := fun b hb => by
      rcases m6 b hb with h1 | h1 | h1
      · exact ⟨(hne b h1), g5 b h1⟩
      · simp at h1
      · simp at h1; omega
    clear K6 m6 o7b g5 hne
    have hlen : (y2.items ++ [s]).length = y2.items.length + 1 := by simp
    rw [hlen] at o6
    replace o6 := Lib.hid o6
    have c_R0 := R0.cells; have f_R0 := R0.frozens
    have c_RZ := RZ.cells; have f_RZ := RZ.frozens
    have c_RP := RP.cells; have f_RP := RP.frozens
    have c_RO := RO.cells; have f_RO := RO.frozens
    go_wp2_with fail
    clear c_R0 f_R0 c_RZ f_RZ c_RP f_RP c_RO f_RO
    replace o6 := o6.out
    have n_R0 := R0.keep (show (w7.setCell ⟨w2.heap.size, 2, none⟩ (.slice a6 (y2.items.length + 1) c6)).heap[_]? = _ from by repeat rw [Below.heap_setCell _ _ _ _ (by simp <;> omega)])
    have n_RZ := RZ.keep (show (w7.setCell ⟨w2.heap.size, 2, none⟩ (.slice a6 (y2.items.length + 1) c6)).heap[_]? = _ from by repeat rw [Below.heap_setCell _ _ _ _ (by simp <;> omega)])
    have n_RP := RP.keep (show (w7.setCell ⟨w2.heap.size, 2, none⟩ (.slice a6 (y2.items.length + 1) c6)).heap[_]? = _ from by repeat rw [Below.heap_setCell _ _ _ _ (by simp <;> omega)])
    have n_RO : Row (w7.setCell ⟨w2.heap.size, 2, none⟩ (.slice a6 (y2.items.length + 1) c6)) (w2.heap.size) 26 [.int .i64 y2.trail, .int .i64 y2.size, .slice a6 (y2.items.length + 1) c6] := by simpa using (RO.set 2 (.slice a6 (y2.items.length + 1) c6))
    have n_o6 := o6.frame (w' := (w7.setCell ⟨w2.heap.size, 2, none⟩ (.slice a6 (y2.items.length + 1) c6))) fun b hb => by
      have h6 := g6 b hb
      repeat rw [Below.heap_setCell _ _ _ _ (by simp <;> omega)]
    have n_hB : Below w.heap.size w (w7.setCell ⟨w2.heap.size, 2, none⟩ (.slice a6 (y2.items.length + 1) c6)) := by
      repeat refine Below.setCell ?_ (by simp <;> omega) _
      exact hB
    clear hB R0 RZ RP RO o6
    have hs_w8 : w7.heap.size ≤ (w7.setCell ⟨w2.heap.size, 2, none⟩ (.slice a6 (y2.items.length + 1) c6)).heap.size := by simp
    generalize (w7.setCell ⟨w2.heap.size, 2, none⟩ (.slice a6 (y2.items.length + 1) c6)) = w8 at *
    have hB := n_hB; clear n_hB
    have R0 := n_R0; clear n_R0
    have RZ := n_RZ; clear n_RZ
    have RP := n_RP; clear n_RP
    have RO := n_RO; clear n_RO
    have o6 := n_o6; clear n_o6
    rename_i K0 hK0
    refine AnyX.start (S := (fun w' => w'.cell? ⟨w2.heap.size, 0, none⟩ = some (.int .i64 y2.trail) ∧ w'.cell? ⟨w2.heap.size, 1, none⟩ = some (.int .i64 y2.size) ∧ w'.cell? ⟨w2.heap.size, 2, none⟩ = some (.slice a6 (y2.items.length + 1) c6))) (X := (fun _ => false)) (by kernel_rfl) ?_
    have al : Below w8.heap.size w8 w8.drew := belowDrewN (Below.refl _ _) 1
    have hs_w9 := al.size
    replace R0 := R0.below al
    replace RZ := RZ.below al
    replace RP := RP.below al
    replace RO := RO.below al
    replace o6 := o6.below al
    replace hB := tr hB al (Nat.le_refl _)
    generalize w8.drew = w9 at *
    clear al
    have hS : (fun w' => w'.cell? ⟨w2.heap.size, 0, none⟩ = some (.int .i64 y2.trail) ∧ w'.cell? ⟨w2.heap.size, 1, none⟩ = some (.int .i64 y2.size) ∧ w'.cell? ⟨w2.heap.size, 2, none⟩ = some (.slice a6 (y2.items.length + 1) c6)) w9 := ⟨RO.cells 0, RO.cells 1, RO.cells 2⟩
    refine AnyX.take (i := 0) (oi := _) (v := ?_) (by rw [List.getElem?_toArray]; rfl) (by kernel_rfl) (by kernel_rfl) (by kernel_rfl) (by kernel_rfl) (by kernel_rfl) (by exact fun _ _ _ h => h) (Or.inl ⟨by rfl, ?_⟩) hS ?_
    rotate_left
    · (intro wS hSw; (try dsimp only at hSw); go_simp; try with_reducible rfl)
    try simp only [Act.put, List.setIfInBounds_toArray, List.set_cons_zero, List.set_cons_succ]
    refine AnyX.take (i := 1) (oi := _) (v := ?_) (by rw [List.getElem?_toArray]; rfl) (by kernel_rfl) (by kernel_rfl) (by kernel_rfl) (by kernel_rfl) (by kernel_rfl) (by exact fun _ _ _ h => h) (Or.inl ⟨by rfl, ?_⟩) hS ?_
    rotate_left
    · (intro wS hSw; (try dsimp only at hSw); go_simp; try with_reducible rfl)
    try simp only [Act.put, List.setIfInBounds_toArray, List.set_cons_zero, List.set_cons_succ]
    refine AnyX.take (i := 2) (oi := _) (v := ?_) (by rw [List.getElem?_toArray]; rfl) (by kernel_rfl) (by kernel_rfl) (by kernel_rfl) (by kernel_rfl) (by kernel_rfl) (by exact fun _ _ _ h => h) (Or.inl ⟨by rfl, ?_⟩) hS ?_
    rotate_left
    · (intro wS hSw; (try dsimp only at hSw); go_simp; try with_reducible rfl)
    try simp only [Act.put, List.setIfInBounds_toArray, List.set_cons_zero, List.set_cons_succ]
    refine AnyX.take (i := 3) (oi := _) (v := ?_) (by rw [List.getElem?_toArray]; rfl) (by kernel_rfl) (by kernel_rfl) (by kernel_rfl) (by kernel_rfl) (by kernel_rfl) (by exact fun _ _ _ h => h) (Or.inl ⟨by rfl, ?_⟩) hS ?_
    rotate_left
    · (intro wS hSw; (try dsimp only at hSw); go_simp; try with_reducible rfl)
    try simp only [Act.put, List.setIfInBounds_toArray, List.set_cons_zero, List.set_cons_succ]
    refine AnyX.take (i := 4) (oi := _) (v := ?_) (by rw [List.getElem?_toArray]; rfl) (by kernel_rfl) (by kernel_rfl) (by kernel_rfl) (by kernel_rfl) (by kernel_rfl) (by exact fun _ _ _ h => h) (Or.inl ⟨by rfl, ?_⟩) hS ?_
    rotate_left
    · (intro wS hSw; (try dsimp only at hSw); go_simp; try with_reducible rfl)
    try simp only [Act.put, List.setIfInBounds_toArray, List.set_cons_zero, List.set_cons_succ]
    refine AnyX.take (i := 6) (oi := _) (v := ?_) (by rw [List.getElem?_toArray]; rfl) (by kernel_rfl) (by kernel_rfl) (by kernel_rfl) (by kernel_rfl) (by kernel_rfl) (by exact fun _ _ _ h => h) (Or.inl ⟨by rfl, ?_⟩) hS ?_
    rotate_left
    · (intro wS hSw; (try dsimp only at hSw); go_simp; try with_reducible rfl)
    try simp only [Act.put, List.setIfInBounds_toArray, List.set_cons_zero, List.set_cons_succ]
    refine AnyX.only (i := 5) (o := _) (by kernel_rfl) (by rw [List.getElem?_toArray]; rfl) (fun K hK => ?_)
    go_simp
    go_at_call 113
    refine (l9Lead_c y2.trail y2.size a6 (y2.items.length + 1) c6 _ hyt0 hyt1 (by omega)).mono ?_
    rintro e w10_ ⟨rfl, hb⟩
    have hs_w10_ := hb.size
    replace R0 := R0.below hb
    replace RZ := RZ.below hb
    replace RP := RP.below hb
    replace RO := RO.below hb
    replace o6 := o6.below hb
    replace hB := tr hB hb (Nat.le_refl _)
    clear hb
    clear hS
    have hS : (fun w' => w'.cell? ⟨w2.heap.size, 0, none⟩ = some (.int .i64 y2.trail) ∧ w'.cell? ⟨w2.heap.size, 1, none⟩ = some (.int .i64 y2.size) ∧ w'.cell? ⟨w2.heap.size, 2, none⟩ = some (.slice a6 (y2.items.length + 1) c6)) w10_ := ⟨RO.cells 0, RO.cells 1, RO.cells 2⟩
    refine hK.out _ _ (fun _ => hS) ?_
    clear hK K
    try simp only [Act.put, List.setIfInBounds_toArray, List.set_cons_zero, List.set_cons_succ]
    refine AnyX.take (i := 7) (oi := _) (v := ?_) (by rw [List.getElem?_toArray]; rfl) (by kernel_rfl) (by kernel_rfl) (by kernel_rfl) (by kernel_rfl) (by kernel_rfl) (by exact fun _ _ _ h => h) (Or.inl ⟨by rfl, ?_⟩) hS ?_
    rotate_left
    · (intro wS hSw; (try dsimp only at hSw); go_simp; try with_reducible rfl)
    try simp only [Act.put, List.setIfInBounds_toArray, List.set_cons_zero, List.set_cons_succ]
    refine AnyX.only (i := 8) (o := _) (by kernel_rfl) (by rw [List.getElem?_toArray]; rfl) (fun K hK => ?_)
    have c_R0 := R0.cells; have f_R0 := R0.frozens
    have c_RZ := RZ.cells; have f_RZ := RZ.frozens
    have c_RP := RP.cells; have f_RP := RP.frozens
    have c_RO := RO.cells; have f_RO := RO.frozens
    go_simp
    clear c_R0 f_R0 c_RZ f_RZ c_RP f_RP c_RO f_RO
    have n_R0 := R0.keep (show (((w10_.setCell ⟨w.heap.size + 1, 0, none⟩ (.int .i64 y2.trail)).setCell ⟨w.heap.size + 1, 1, none⟩ (.int .i64 y2.size)).setCell ⟨w.heap.size + 1, 2, none⟩ (.slice a6 (y2.items.length + 1) c6)).heap[_]? = _ from by repeat rw [Below.heap_setCell _ _ _ _ (by simp <;> omega)])
    have n_RP := RP.keep (show (((w10_.setCell ⟨w.heap.size + 1, 0, none⟩ (.int .i64 y2.trail)).setCell ⟨w.heap.size + 1, 1, none⟩ (.int .i64 y2.size)).setCell ⟨w.heap.size + 1, 2, none⟩ (.slice a6 (y2.items.length + 1) c6)).heap[_]? = _ from by repeat rw [Below.heap_setCell _ _ _ _ (by simp <;> omega)])
    have n_RO := RO.keep (show (((w10_.setCell ⟨w.heap.size + 1, 0, none⟩ (.int .i64 y2.trail)).setCell ⟨w.heap.size + 1, 1, none⟩ (.int .i64 y2.size)).setCell ⟨w.heap.size + 1, 2, none⟩ (.slice a6 (y2.items.length + 1) c6)).heap[_]? = _ from by repeat rw [Below.heap_setCell _ _ _ _ (by simp <;> omega)])
    have n_RZ : Row (((w10_.setCell ⟨w.heap.size + 1, 0, none⟩ (.int .i64 y2.trail)).setCell ⟨w.heap.size + 1, 1, none⟩ (.int .i64 y2.size)).setCell ⟨w.heap.size + 1, 2, none⟩ (.slice a6 (y2.items.length + 1) c6)) (w.heap.size + 1) 26 [.int .i64 y2.trail, .int .i64 y2.size, .slice a6 (y2.items.length + 1) c6] := by simpa using (((RZ.set 0 (.int .i64 y2.trail)).set 1 (.int .i64 y2.size)).set 2 (.slice a6 (y2.items.length + 1) c6))
    have n_o6 := o6.frame (w' := (((w10_.setCell ⟨w.heap.size + 1, 0, none⟩ (.int .i64 y2.trail)).setCell ⟨w.heap.size + 1, 1, none⟩ (.int .i64 y2.size)).setCell ⟨w.heap.size + 1, 2, none⟩ (.slice a6 (y2.items.length + 1) c6))) fun b hb => by
      have h6 := g6 b hb
      repeat rw [Below.heap_setCell _ _ _ _ (by simp <;> omega)]
    have n_hB : Below w.heap.size w (((w10_.setCell ⟨w.heap.size + 1, 0, none⟩ (.int .i64 y2.trail)).setCell ⟨w.heap.size + 1, 1, none⟩ (.int .i64 y2.size)).setCell ⟨w.heap.size + 1, 2, none⟩ (.slice a6 (y2.items.length + 1) c6)) := by
      repeat refine Below.setCell ?_ (by simp <;> omega) _
      exact hB
    clear hB R0 RZ RP RO o6
    have hs_w11 : w10_.heap.size ≤ (((w10_.setCell ⟨w.heap.size + 1, 0, none⟩ (.int .i64 y2.trail)).setCell ⟨w.heap.size + 1, 1, none⟩ (.int .i64 y2.size)).setCell ⟨w.heap.size + 1, 2, none⟩ (.slice a6 (y2.items.length + 1) c6)).heap.size := by simp
    generalize (((w10_.setCell ⟨w.heap.size + 1, 0, none⟩ (.int .i64 y2.trail)).setCell ⟨w.heap.size + 1, 1, none⟩ (.int .i64 y2.size)).setCell ⟨w.heap.size + 1, 2, none⟩ (.slice a6 (y2.items.length + 1) c6)) = w11 at *
    have hB := n_hB; clear n_hB
    have R0 := n_R0; clear n_R0
    have RZ := n_RZ; clear n_RZ
    have RP := n_RP; clear n_RP
    have RO := n_RO; clear n_RO
    have o6 := n_o6; clear n_o6
    clear hS
    have hS : (fun w' => w'.cell? ⟨w2.heap.size, 0, none⟩ = some (.int .i64 y2.trail) ∧ w'.cell? ⟨w2.heap.size, 1, none⟩ = some (.int .i64 y2.size) ∧ w'.cell? ⟨w2.heap.size, 2, none⟩ = some (.slice a6 (y2.items.length + 1) c6)) w11 := ⟨RO.cells 0, RO.cells 1, RO.cells 2⟩
    refine hK.out _ _ (fun _ => hS) ?_
    clear hK K
    try simp only [Act.put, List.setIfInBounds_toArray, List.set_cons_zero, List.set_cons_succ]
    refine AnyX.only (i := 9) (o := _) (by kernel_rfl) (by rw [List.getElem?_toArray]; rfl) (fun K hK => ?_)
    have c_R0 := R0.cells; have f_R0 := R0.frozens
    have c_RZ := RZ.cells; have f_RZ := RZ.frozens
    have c_RP := RP.cells; have f_RP := RP.frozens
    have c_RO := RO.cells; have f_RO := RO.frozens
    go_simp
    clear c_R0 f_R0 c_RZ f_RZ c_RP f_RP c_RO f_RO
    have n_R0 := R0.keep (show (((((w11.setCell ⟨w.heap.size + 1 + 1, 0, none⟩ (.int .i64 1)).setCell ⟨w.heap.size + 1 + 1, 1, none⟩ (.int .i64 (aft x0.trail x0.items.length))).setCell ⟨w.heap.size + 1 + 1, 2, none⟩ (.int .i64 y2.trail)).setCell ⟨w.heap.size + 1 + 1, 3, none⟩ (.int .i64 (aft y2.trail ((y2.items.length : Int) + 1)))).setCell ⟨w.heap.size + 1 + 1, 4, none⟩ (.string s)).heap[_]? = _ from by repeat rw [Below.heap_setCell _ _ _ _ (by simp <;> omega)])
    have n_RZ := RZ.keep (show (((((w11.setCell ⟨w.heap.size + 1 + 1, 0, none⟩ (.int .i64 1)).setCell ⟨w.heap.size + 1 + 1, 1, none⟩ (.int .i64 (aft x0.trail x0.items.length))).setCell ⟨w.heap.size + 1 + 1, 2, none⟩ (.int .i64 y2.trail)).setCell ⟨w.heap.size + 1 + 1, 3, none⟩ (.int .i64 (aft y2.trail ((y2.items.length : Int) + 1)))).setCell ⟨w.heap.size + 1 + 1, 4, none⟩ (.string s)).heap[_]? = _ from by repeat rw [Below.heap_setCell _ _ _ _ (by simp <;> omega)])
    have n_RO := RO.keep (show (((((w11.setCell ⟨w.heap.size + 1 + 1, 0, none⟩ (.int .i64 1)).setCell ⟨w.heap.size + 1 + 1, 1, none⟩ (.int .i64 (aft x0.trail x0.items.length))).setCell ⟨w.heap.size + 1 + 1, 2, none⟩ (.int .i64 y2.trail)).setCell ⟨w.heap.size + 1 + 1, 3, none⟩ (.int .i64 (aft y2.trail ((y2.items.length : Int) + 1)))).setCell ⟨w.heap.size + 1 + 1, 4, none⟩ (.string s)).heap[_]? = _ from by repeat rw [Below.heap_setCell _ _ _ _ (by simp <;> omega)])
    have n_RP : Row (((((w11.setCell ⟨w.heap.size + 1 + 1, 0, none⟩ (.int .i64 1)).setCell ⟨w.heap.size + 1 + 1, 1, none⟩ (.int .i64 (aft x0.trail x0.items.length))).setCell ⟨w.heap.size + 1 + 1, 2, none⟩ (.int .i64 y2.trail)).setCell ⟨w.heap.size + 1 + 1, 3, none⟩ (.int .i64 (aft y2.trail ((y2.items.length : Int) + 1)))).setCell ⟨w.heap.size + 1 + 1, 4, none⟩ (.string s)) (w.heap.size + 1 + 1) 30 [.int .i64 1, .int .i64 (aft x0.trail x0.items.length), .int .i64 y2.trail, .int .i64 (aft y2.trail ((y2.items.length : Int) + 1)), .string s] := by simpa using (((((RP.set 0 (.int .i64 1)).set 1 (.int .i64 (aft x0.trail x0.items.length))).set 2 (.int .i64 y2.trail)).set 3 (.int .i64 (aft y2.trail ((y2.items.length : Int) + 1)))).set 4 (.string s))
    have n_o6 := o6.frame (w' := (((((w11.setCell ⟨w.heap.size + 1 + 1, 0, none⟩ (.int .i64 1)).setCell ⟨w.heap.size + 1 + 1, 1, none⟩ (.int .i64 (aft x0.trail x0.items.length))).setCell ⟨w.heap.size + 1 + 1, 2, none⟩ (.int .i64 y2.trail)).setCell ⟨w.heap.size + 1 + 1, 3, none⟩ (.int .i64 (aft y2.trail ((y2.items.length : Int) + 1)))).setCell ⟨w.heap.size + 1 + 1, 4, none⟩ (.string s))) fun b hb => by
      have h6 := g6 b hb
      repeat rw [Below.heap_setCell _ _ _ _ (by simp <;> omega)]
    have n_hB : Below w.heap.size w (((((w11.setCell ⟨w.heap.size + 1 + 1, 0, none⟩ (.int .i64 1)).setCell ⟨w.heap.size + 1 + 1, 1, none⟩ (.int .i64 (aft x0.trail x0.items.length))).setCell ⟨w.heap.size + 1 + 1, 2, none⟩ (.int .i64 y2.trail)).setCell ⟨w.heap.size + 1 + 1, 3, none⟩ (.int .i64 (aft y2.trail ((y2.items.length : Int) + 1)))).setCell ⟨w.heap.size + 1 + 1, 4, none⟩ (.string s)) := by
      repeat refine Below.setCell ?_ (by simp <;> omega) _
      exact hB
    clear hB R0 RZ RP RO o6
    have hs_w12 : w11.heap.size ≤ (((((w11.setCell ⟨w.heap.size + 1 + 1, 0, none⟩ (.int .i64 1)).setCell ⟨w.heap.size + 1 + 1, 1, none⟩ (.int .i64 (aft x0.trail x0.items.length))).setCell ⟨w.heap.size + 1 + 1, 2, none⟩ (.int .i64 y2.trail)).setCell ⟨w.heap.size + 1 + 1, 3, none⟩ (.int .i64 (aft y2.trail ((y2.items.length : Int) + 1)))).setCell ⟨w.heap.size + 1 + 1, 4, none⟩ (.string s)).heap.size := by simp
    generalize (((((w11.setCell ⟨w.heap.size + 1 + 1, 0, none⟩ (.int .i64 1)).setCell ⟨w.heap.size + 1 + 1, 1, none⟩ (.int .i64 (aft x0.trail x0.items.length))).setCell ⟨w.heap.size + 1 + 1, 2, none⟩ (.int .i64 y2.trail)).setCell ⟨w.heap.size + 1 + 1, 3, none⟩ (.int .i64 (aft y2.trail ((y2.items.length : Int) + 1)))).setCell ⟨w.heap.size + 1 + 1, 4, none⟩ (.string s)) = w12 at *
    have hB := n_hB; clear n_hB
    have R0 := n_R0; clear n_R0
    have RZ := n_RZ; clear n_RZ
    have RP := n_RP; clear n_RP
    have RO := n_RO; clear n_RO
    have o6 := n_o6; clear n_o6
    clear hS
    have hS : (fun w' => w'.cell? ⟨w2.heap.size, 0, none⟩ = some (.int .i64 y2.trail) ∧ w'.cell? ⟨w2.heap.size, 1, none⟩ = some (.int .i64 y2.size) ∧ w'.cell? ⟨w2.heap.size, 2, none⟩ = some (.slice a6 (y2.items.length + 1) c6)) w12 := ⟨RO.cells 0, RO.cells 1, RO.cells 2⟩
    refine hK.out _ _ (fun _ => hS) ?_
    clear hK K
    try simp only [Act.put, List.setIfInBounds_toArray, List.set_cons_zero, List.set_cons_succ]
    refine AnyX.done (by kernel_rfl) ?_ _
    (try clear hS)
    refine hK0 _ _ ?_
    clear hK0 K0
    obtain ⟨F7, hF7, s7⟩ := o6.sl (Weak.refl _)
    clear o6
    replace s7 := Lib.hid s7
    have c_R0 := R0.cells; have f_R0 := R0.frozens
    have c_RZ := RZ.cells; have f_RZ := RZ.frozens
    have c_RP := RP.cells; have f_RP := RP.frozens
    have c_RO := RO.cells; have f_RO := RO.frozens
    go_wp2_with fail
    refine bodyPost_ret (v := .tuple #[.agg #[.int .i64 y2.trail, .int .i64 y2.size, .slice a6 (y2.items.length + 1) c6], .agg #[.int .i64 1, .int .i64 (aft x0.trail x0.items.length), .int .i64 y2.trail, .int .i64 (aft y2.trail ((y2.items.length : Int) + 1)), .string s]]) ?_ rfl ?_
    · simp [results, Tryd.results100, go_sem, c_RZ, f_RZ, c_RP, f_RP]
    · have hry2 := hry.out
      have hyz2 := hyz.out
      rw [show pushedW x0 s = ⟨y2.trail, y2.size, y2.items ++ [s]⟩ from by unfold pushedW; rw [hry2, hyz2]]
      refine ⟨_, F7, by unfold pushedP; rw [hry2], ⟨_, rfl, _, rfl, s7.out⟩, fun b hb => by have := g6 b (hF7 b hb); omega, hB⟩
  · have c_R0 := R0.cells; have f_R0 := R0.frozens; have d_R0 := fun o => (R0.alloc o).cells; have e_R0 := fun o => (R0.alloc o).frozens
    have c_RZ := RZ.cells; have f_RZ := RZ.frozens; have d_RZ := fun o => (RZ.alloc o).cells; have e_RZ := fun o => (RZ.alloc o).frozens
    have c_RP := RP.cells; have f_RP := RP.frozens; have d_RP := fun o => (RP.alloc o).cells; have e_RP := fun o => (RP.alloc o).frozens
    go_wp2_with fail
    clear c_R0 f_R0 d_R0 e_R0 c_RZ f_RZ d_RZ e_RZ c_RP f_RP d_RP e_RP
    have al : Below w2.heap.size w2 (w2.alloc (.cells #[.int .i64 y.trail, .int .i64 y.size, .slice a5 y.items.length c5] 26)) := by
      repeat refine Below.alloc ?_ (by simp <;> omega) _
      exact Below.refl _ _
    have n_RO := Row.made w2 26 [.int .i64 y.trail, .int .i64 y.size, .slice a5 y.items.length c5]
    have hs_w13 : w2.heap.size < (w2.alloc (.cells #[.int .i64 y.trail, .int .i64 y.size, .slice a5 y.items.length c5] 26)).heap.size := by simp
    replace R0 := R0.below al
    replace RZ := RZ.below al
    replace RP := RP.below al
    replace A0 := A0.below al
    replace o5 := o5.below al
    replace hB := tr hB al (Nat.le_refl _)
    generalize (w2.alloc (.cells #[.int .i64 y.trail, .int .i64 y.size, .slice a5 y.items.length c5] 26)) = w13 at *
    have RO := n_RO; clear n_RO
    clear al
    clear A0
    have hyx : y = x0 := by rw [hy_y.out]; show (⟨aft x0.trail 0, x0.size, x0.items⟩ : SendWindow) = x0; rw [aft_zero t0 t1]
    have hry : roomed x0 = y := by unfold roomed; rw [if_neg hf, hyx]
    replace hry := Lib.hid hry
    have hyt0 : 0 ≤ y.trail := by rw [hyx]; exact t0
    have hyt1 : y.trail ≤ 65535 := by rw [hyx]; exact t1
    have hyl : y.items.length ≤ 6 := by rw [hyx]; exact hl
    have hyz : y.size = x0.size := by rw [hyx]
    replace hyz := Lib.hid hyz
    have hnum : aft y.trail y.items.length = aft x0.trail x0.items.length := by rw [hyx]
    replace hnum := Lib.hid hnum
    clear hyx hy_y hf
    have hsP := RP.lt
    have hne : ∀ b ∈ F5, b ≠ w2.heap.size := fun b hb => by have := l5 b hb; omega
    have g5 : ∀ b ∈ F5, w.heap.size + 2 < b := fun b hb => by have := g5 b hb; omega
    refine (l9Lead_c y.trail y.size a5 y.items.length c5 _ hyt0 hyt1 (by omega)).mono ?_
    rintro e w14_ ⟨rfl, hb⟩
    have hs_w14_ := hb.size
    replace R0 := R0.below hb
    replace RZ := RZ.below hb
    replace RP := RP.below hb
    replace RO := RO.below hb
    replace o5 := o5.below hb
    replace hB := tr hB hb (Nat.le_refl _)
    clear hb
    rw [hnum.out]
    have lR := RO.lt
    have c_R0 := R0.cells; have f_R0 := R0.frozens; have d_R0 := fun o => (R0.alloc o).cells; have e_R0 := fun o => (R0.alloc o).frozens
    have c_RZ := RZ.cells; have f_RZ := RZ.frozens; have d_RZ := fun o => (RZ.alloc o).cells; have e_RZ := fun o => (RZ.alloc o).frozens
    have c_RP := RP.cells; have f_RP := RP.frozens; have d_RP := fun o => (RP.alloc o).cells; have e_RP := fun o => (RP.alloc o).frozens
    have c_RO := RO.cells; have f_RO := RO.frozens; have d_RO := fun o => (RO.alloc o).cells; have e_RO := fun o => (RO.alloc o).frozens
    go_wp2_with (at_builtin; refine wpList_apd one_EStr (by decide) (by rfl) _ _ _ (by rfl) 9 (.string ⟨#[]⟩) 16 Tryd.underlying24 info_string rfl (.slice a5 y.items.length c5) y.items F5 (by rfl) (o5.below ((Below.refl _ _).alloc (Nat.le_refl _) _)) (Hd.of n5) (some ⟨w14_.heap.size, 0, none⟩) [s] 1 (by rfl) [.string s] [] (str_flat (xs := [s]) _ (by simpa using hs)) (.inr ⟨_, rfl, one_src _ _ _⟩) (by simp) (by simp; unfold maxLen; omega) (by simp; omega) ?_)
    clear c_R0 f_R0 d_R0 e_R0 c_RZ f_RZ d_RZ e_RZ c_RP f_RP d_RP e_RP c_RO f_RO d_RO e_RO
    intro v6 w15 F6 hA
    have o6 := hA.ow
    have m6 := hA.mem
    have K6 := hA.keep
    have hs_w15 := K6.size
    obtain ⟨a6, c6, rfl⟩ := o6.slice
    clear hA
    replace R0 := (R0.alloc (.cells #[.string s] 9)).keepK K6 (fun hm => by have h1 := g5 _ hm; omega)
    replace RZ := (RZ.alloc (.cells #[.string s] 9)).keepK K6 (fun hm => by have h1 := g5 _ hm; omega)
    replace RP := (RP.alloc (.cells #[.string s] 9)).keepK K6 (fun hm => by have h1 := g5 _ hm; omega)
    replace RO := (RO.alloc (.cells #[.string s] 9)).keepK K6 (fun hm => hne _ hm rfl)
    replace hB := (tr hB ((Below.refl _ _).alloc (Nat.le_refl _) (.cells #[.string s] 9)) (Nat.le_refl _)).trans (K6.below (B := w.heap.size) (by simp; omega) (fun b hm => by have h1 := g5 _ hm; omega))
    have g6 : ∀ b ∈ F6, b ≠ w2.heap.size ∧ w.heap.size + 2 < b := fun b hb => by
      rcases m6 b hb with h1 | h1 | h1
      · exact ⟨(hne b h1), g5 b h1⟩
      · simp at h1
      · simp at h1; omega
    clear K6 m6 o5 g5 hne
    have hlen : (y.items ++ [s]).length = y.items.length + 1 := by simp
    rw [hlen] at o6
    replace o6 := Lib.hid o6
    have c_R0 := R0.cells; have f_R0 := R0.frozens
    have c_RZ := RZ.cells; have f_RZ := RZ.frozens
    have c_RP := RP.cells; have f_RP := RP.frozens
    have c_RO := RO.cells; have f_RO := RO.frozens
    go_wp2_with fail
    clear c_R0 f_R0 c_RZ f_RZ c_RP f_RP c_RO f_RO
    replace o6 := o6.out
    have n_R0 := R0.keep (show (w15.setCell ⟨w2.heap.size, 2, none⟩ (.slice a6 (y.items.length + 1) c6)).heap[_]? = _ from by repeat rw [Below.heap_setCell _ _ _ _ (by simp <;> omega)])
    have n_RZ := RZ.keep (show (w15.setCell ⟨w2.heap.size, 2, none⟩ (.slice a6 (y.items.length + 1) c6)).heap[_]? = _ from by repeat rw [Below.heap_setCell _ _ _ _ (by simp <;> omega)])
    have n_RP := RP.keep (show (w15.setCell ⟨w2.heap.size, 2, none⟩ (.slice a6 (y.items.length + 1) c6)).heap[_]? = _ from by repeat rw [Below.heap_setCell _ _ _ _ (by simp <;> omega)])
    have n_RO : Row (w15.setCell ⟨w2.heap.size, 2, none⟩ (.slice a6 (y.items.length + 1) c6)) (w2.heap.size) 26 [.int .i64 y.trail, .int .i64 y.size, .slice a6 (y.items.length + 1) c6] := by simpa using (RO.set 2 (.slice a6 (y.items.length + 1) c6))
    have n_o6 := o6.frame (w' := (w15.setCell ⟨w2.heap.size, 2, none⟩ (.slice a6 (y.items.length + 1) c6))) fun b hb => by
      have h6 := g6 b hb
      repeat rw [Below.heap_setCell _ _ _ _ (by simp <;> omega)]
    have n_hB : Below w.heap.size w (w15.setCell ⟨w2.heap.size, 2, none⟩ (.slice a6 (y.items.length + 1) c6)) := by
      repeat refine Below.setCell ?_ (by simp <;> omega) _
      exact hB
    clear hB R0 RZ RP RO o6
    have hs_w16 : w15.heap.size ≤ (w15.setCell ⟨w2.heap.size, 2, none⟩ (.slice a6 (y.items.length + 1) c6)).heap.size := by simp
    generalize (w15.setCell ⟨w2.heap.size, 2, none⟩ (.slice a6 (y.items.length + 1) c6)) = w16 at *
    have hB := n_hB; clear n_hB
    have R0 := n_R0; clear n_R0
    have RZ := n_RZ; clear n_RZ
    have RP := n_RP; clear n_RP
    have RO := n_RO; clear n_RO
    have o6 := n_o6; clear n_o6
    rename_i K0 hK0
    refine AnyX.start (S := (fun w' => w'.cell? ⟨w2.heap.size, 0, none⟩ = some (.int .i64 y.trail) ∧ w'.cell? ⟨w2.heap.size, 1, none⟩ = some (.int .i64 y.size) ∧ w'.cell? ⟨w2.heap.size, 2, none⟩ = some (.slice a6 (y.items.length + 1) c6))) (X := (fun _ => false)) (by kernel_rfl) ?_
    have al : Below w16.heap.size w16 w16.drew := belowDrewN (Below.refl _ _) 1
    have hs_w17 := al.size
    replace R0 := R0.below al
    replace RZ := RZ.below al
    replace RP := RP.below al
    replace RO := RO.below al
    replace o6 := o6.below al
    replace hB := tr hB al (Nat.le_refl _)
    generalize w16.drew = w17 at *
    clear al
    have hS : (fun w' => w'.cell? ⟨w2.heap.size, 0, none⟩ = some (.int .i64 y.trail) ∧ w'.cell? ⟨w2.heap.size, 1, none⟩ = some (.int .i64 y.size) ∧ w'.cell? ⟨w2.heap.size, 2, none⟩ = some (.slice a6 (y.items.length + 1) c6)) w17 := ⟨RO.cells 0, RO.cells 1, RO.cells 2⟩
    refine AnyX.take (i := 0) (oi := _) (v := ?_) (by rw [List.getElem?_toArray]; rfl) (by kernel_rfl) (by kernel_rfl) (by kernel_rfl) (by kernel_rfl) (by kernel_rfl) (by exact fun _ _ _ h => h) (Or.inl ⟨by rfl, ?_⟩) hS ?_
    rotate_left
    · (intro wS hSw; (try dsimp only at hSw); go_simp; try with_reducible rfl)
    try simp only [Act.put, List.setIfInBounds_toArray, List.set_cons_zero, List.set_cons_succ]
    refine AnyX.take (i := 1) (oi := _) (v := ?_) (by rw [List.getElem?_toArray]; rfl) (by kernel_rfl) (by kernel_rfl) (by kernel_rfl) (by kernel_rfl) (by kernel_rfl) (by exact fun _ _ _ h => h) (Or.inl ⟨by rfl, ?_⟩) hS ?_
    rotate_left
    · (intro wS hSw; (try dsimp only at hSw); go_simp; try with_reducible rfl)
    try simp only [Act.put, List.setIfInBounds_toArray, List.set_cons_zero, List.set_cons_succ]
    refine AnyX.take (i := 2) (oi := _) (v := ?_) (by rw [List.getElem?_toArray]; rfl) (by kernel_rfl) (by kernel_rfl) (by kernel_rfl) (by kernel_rfl) (by kernel_rfl) (by exact fun _ _ _ h => h) (Or.inl ⟨by rfl, ?_⟩) hS ?_
    rotate_left
    · (intro wS hSw; (try dsimp only at hSw); go_simp; try with_reducible rfl)
    try simp only [Act.put, List.setIfInBounds_toArray, List.set_cons_zero, List.set_cons_succ]
    refine AnyX.take (i := 3) (oi := _) (v := ?_) (by rw [List.getElem?_toArray]; rfl) (by kernel_rfl) (by kernel_rfl) (by kernel_rfl) (by kernel_rfl) (by kernel_rfl) (by exact fun _ _ _ h => h) (Or.inl ⟨by rfl, ?_⟩) hS ?_
    rotate_left
    · (intro wS hSw; (try dsimp only at hSw); go_simp; try with_reducible rfl)
    try simp only [Act.put, List.setIfInBounds_toArray, List.set_cons_zero, List.set_cons_succ]
    refine AnyX.take (i := 4) (oi := _) (v := ?_) (by rw [List.getElem?_toArray]; rfl) (by kernel_rfl) (by kernel_rfl) (by kernel_rfl) (by kernel_rfl) (by kernel_rfl) (by exact fun _ _ _ h => h) (Or.inl ⟨by rfl, ?_⟩) hS ?_
    rotate_left
    · (intro wS hSw; (try dsimp only at hSw); go_simp; try with_reducible rfl)
    try simp only [Act.put, List.setIfInBounds_toArray, List.set_cons_zero, List.set_cons_succ]
    refine AnyX.take (i := 6) (oi := _) (v := ?_) (by rw [List.getElem?_toArray]; rfl) (by kernel_rfl) (by kernel_rfl) (by kernel_rfl) (by kernel_rfl) (by kernel_rfl) (by exact fun _ _ _ h => h) (Or.inl ⟨by rfl, ?_⟩) hS ?_
    rotate_left
    · (intro wS hSw; (try dsimp only at hSw); go_simp; try with_reducible rfl)
    try simp only [Act.put, List.setIfInBounds_toArray, List.set_cons_zero, List.set_cons_succ]
    refine AnyX.only (i := 5) (o := _) (by kernel_rfl) (by rw [List.getElem?_toArray]; rfl) (fun K hK => ?_)
    go_simp
    go_at_call 113
    refine (l9Lead_c y.trail y.size a6 (y.items.length + 1) c6 _ hyt0 hyt1 (by omega)).mono ?_
    rintro e w18_ ⟨rfl, hb⟩
    have hs_w18_ := hb.size
    replace R0 := R0.below hb
    replace RZ := RZ.below hb
    replace RP := RP.below hb
    replace RO := RO.below hb
    replace o6 := o6.below hb
    replace hB := tr hB hb (Nat.le_refl _)
    clear hb
    clear hS
    have hS : (fun w' => w'.cell? ⟨w2.heap.size, 0, none⟩ = some (.int .i64 y.trail) ∧ w'.cell? ⟨w2.heap.size, 1, none⟩ = some (.int .i64 y.size) ∧ w'.cell? ⟨w2.heap.size, 2, none⟩ = some (.slice a6 (y.items.length + 1) c6)) w18_ := ⟨RO.cells 0, RO.cells 1, RO.cells 2⟩
    refine hK.out _ _ (fun _ => hS) ?_
    clear hK K
    try simp only [Act.put, List.setIfInBounds_toArray, List.set_cons_zero, List.set_cons_succ]
    refine AnyX.take (i := 7) (oi := _) (v := ?_) (by rw [List.getElem?_toArray]; rfl) (by kernel_rfl) (by kernel_rfl) (by kernel_rfl) (by kernel_rfl) (by kernel_rfl) (by exact fun _ _ _ h => h) (Or.inl ⟨by rfl, ?_⟩) hS ?_
    rotate_left
    · (intro wS hSw; (try dsimp only at hSw); go_simp; try with_reducible rfl)
    try simp only [Act.put, List.setIfInBounds_toArray, List.set_cons_zero, List.set_cons_succ]
    refine AnyX.only (i := 8) (o := _) (by kernel_rfl) (by rw [List.getElem?_toArray]; rfl) (fun K hK => ?_)
    have c_R0 := R0.cells; have f_R0 := R0.frozens
    have c_RZ := RZ.cells; have f_RZ := RZ.frozens
    have c_RP := RP.cells; have f_RP := RP.frozens
    have c_RO := RO.cells; have f_RO := RO.frozens
    go_simp
    clear c_R0 f_R0 c_RZ f_RZ c_RP f_RP c_RO f_RO
    have n_R0 := R0.keep (show (((w18_.setCell ⟨w.heap.size + 1, 0, none⟩ (.int .i64 y.trail)).setCell ⟨w.heap.size + 1, 1, none⟩ (.int .i64 y.size)).setCell ⟨w.heap.size + 1, 2, none⟩ (.slice a6 (y.items.length + 1) c6)).heap[_]? = _ from by repeat rw [Below.heap_setCell _ _ _ _ (by simp <;> omega)])
    have n_RP := RP.keep (show (((w18_.setCell ⟨w.heap.size + 1, 0, none⟩ (.int .i64 y.trail)).setCell ⟨w.heap.size + 1, 1, none⟩ (.int .i64 y.size)).setCell ⟨w.heap.size + 1, 2, none⟩ (.slice a6 (y.items.length + 1) c6)).heap[_]? = _ from by repeat rw [Below.heap_setCell _ _ _ _ (by simp <;> omega)])
    have n_RO := RO.keep (show (((w18_.setCell ⟨w.heap.size + 1, 0, none⟩ (.int .i64 y.trail)).setCell ⟨w.heap.size + 1, 1, none⟩ (.int .i64 y.size)).setCell ⟨w.heap.size + 1, 2, none⟩ (.slice a6 (y.items.length + 1) c6)).heap[_]? = _ from by repeat rw [Below.heap_setCell _ _ _ _ (by simp <;> omega)])
    have n_RZ : Row (((w18_.setCell ⟨w.heap.size + 1, 0, none⟩ (.int .i64 y.trail)).setCell ⟨w.heap.size + 1, 1, none⟩ (.int .i64 y.size)).setCell ⟨w.heap.size + 1, 2, none⟩ (.slice a6 (y.items.length + 1) c6)) (w.heap.size + 1) 26 [.int .i64 y.trail, .int .i64 y.size, .slice a6 (y.items.length + 1) c6] := by simpa using (((RZ.set 0 (.int .i64 y.trail)).set 1 (.int .i64 y.size)).set 2 (.slice a6 (y.items.length + 1) c6))
    have n_o6 := o6.frame (w' := (((w18_.setCell ⟨w.heap.size + 1, 0, none⟩ (.int .i64 y.trail)).setCell ⟨w.heap.size + 1, 1, none⟩ (.int .i64 y.size)).setCell ⟨w.heap.size + 1, 2, none⟩ (.slice a6 (y.items.length + 1) c6))) fun b hb => by
      have h6 := g6 b hb
      repeat rw [Below.heap_setCell _ _ _ _ (by simp <;> omega)]
    have n_hB : Below w.heap.size w (((w18_.setCell ⟨w.heap.size + 1, 0, none⟩ (.int .i64 y.trail)).setCell ⟨w.heap.size + 1, 1, none⟩ (.int .i64 y.size)).setCell ⟨w.heap.size + 1, 2, none⟩ (.slice a6 (y.items.length + 1) c6)) := by
      repeat refine Below.setCell ?_ (by simp <;> omega) _
      exact hB
    clear hB R0 RZ RP RO o6
    have hs_w19 : w18_.heap.size ≤ (((w18_.setCell ⟨w.heap.size + 1, 0, none⟩ (.int .i64 y.trail)).setCell ⟨w.heap.size + 1, 1, none⟩ (.int .i64 y.size)).setCell ⟨w.heap.size + 1, 2, none⟩ (.slice a6 (y.items.length + 1) c6)).heap.size := by simp
    generalize (((w18_.setCell ⟨w.heap.size + 1, 0, none⟩ (.int .i64 y.trail)).setCell ⟨w.heap.size + 1, 1, none⟩ (.int .i64 y.size)).setCell ⟨w.heap.size + 1, 2, none⟩ (.slice a6 (y.items.length + 1) c6)) = w19 at *
    have hB := n_hB; clear n_hB
    have R0 := n_R0; clear n_R0
    have RZ := n_RZ; clear n_RZ
    have RP := n_RP; clear n_RP
    have RO := n_RO; clear n_RO
    have o6 := n_o6; clear n_o6
    clear hS
    have hS : (fun w' => w'.cell? ⟨w2.heap.size, 0, none⟩ = some (.int .i64 y.trail) ∧ w'.cell? ⟨w2.heap.size, 1, none⟩ = some (.int .i64 y.size) ∧ w'.cell? ⟨w2.heap.size, 2, none⟩ = some (.slice a6 (y.items.length + 1) c6)) w19 := ⟨RO.cells 0, RO.cells 1, RO.cells 2⟩
    refine hK.out _ _ (fun _ => hS) ?_
    clear hK K
    try simp only [Act.put, List.setIfInBounds_toArray, List.set_cons_zero, List.set_cons_succ]
    refine AnyX.only (i := 9) (o := _) (by kernel_rfl) (by rw [List.getElem?_toArray]; rfl) (fun K hK => ?_)
    have c_R0 := R0.cells; have f_R0 := R0.frozens
    have c_RZ := RZ.cells; have f_RZ := RZ.frozens
    have c_RP := RP.cells; have f_RP := RP.frozens
    have c_RO := RO.cells; have f_RO := RO.frozens
    go_simp
    clear c_R0 f_R0 c_RZ f_RZ c_RP f_RP c_RO f_RO
    have n_R0 := R0.keep (show (((((w19.setCell ⟨w.heap.size + 1 + 1, 0, none⟩ (.int .i64 1)).setCell ⟨w.heap.size + 1 + 1, 1, none⟩ (.int .i64 (aft x0.trail x0.items.length))).setCell ⟨w.heap.size + 1 + 1, 2, none⟩ (.int .i64 y.trail)).setCell ⟨w.heap.size + 1 + 1, 3, none⟩ (.int .i64 (aft y.trail ((y.items.length : Int) + 1)))).setCell ⟨w.heap.size + 1 + 1, 4, none⟩ (.string s)).heap[_]? = _ from by repeat rw [Below.heap_setCell _ _ _ _ (by simp <;> omega)])
    have n_RZ := RZ.keep (show (((((w19.setCell ⟨w.heap.size + 1 + 1, 0, none⟩ (.int .i64 1)).setCell ⟨w.heap.size + 1 + 1, 1, none⟩ (.int .i64 (aft x0.trail x0.items.length))).setCell ⟨w.heap.size + 1 + 1, 2, none⟩ (.int .i64 y.trail)).setCell ⟨w.heap.size + 1 + 1, 3, none⟩ (.int .i64 (aft y.trail ((y.items.length : Int) + 1)))).setCell ⟨w.heap.size + 1 + 1, 4, none⟩ (.string s)).heap[_]? = _ from by repeat rw [Below.heap_setCell _ _ _ _ (by simp <;> omega)])
    have n_RO := RO.keep (show (((((w19.setCell ⟨w.heap.size + 1 + 1, 0, none⟩ (.int .i64 1)).setCell ⟨w.heap.size + 1 + 1, 1, none⟩ (.int .i64 (aft x0.trail x0.items.length))).setCell ⟨w.heap.size + 1 + 1, 2, none⟩ (.int .i64 y.trail)).setCell ⟨w.heap.size + 1 + 1, 3, none⟩ (.int .i64 (aft y.trail ((y.items.length : Int) + 1)))).setCell ⟨w.heap.size + 1 + 1, 4, none⟩ (.string s)).heap[_]? = _ from by repeat rw [Below.heap_setCell _ _ _ _ (by simp <;> omega)])
    have n_RP : Row (((((w19.setCell ⟨w.heap.size + 1 + 1, 0, none⟩ (.int .i64 1)).setCell ⟨w.heap.size + 1 + 1, 1, none⟩ (.int .i64 (aft x0.trail x0.items.length))).setCell ⟨w.heap.size + 1 + 1, 2, none⟩ (.int .i64 y.trail)).setCell ⟨w.heap.size + 1 + 1, 3, none⟩ (.int .i64 (aft y.trail ((y.items.length : Int) + 1)))).setCell ⟨w.heap.size + 1 + 1, 4, none⟩ (.string s)) (w.heap.size + 1 + 1) 30 [.int .i64 1, .int .i64 (aft x0.trail x0.items.length), .int .i64 y.trail, .int .i64 (aft y.trail ((y.items.length : Int) + 1)), .string s] := by simpa using (((((RP.set 0 (.int .i64 1)).set 1 (.int .i64 (aft x0.trail x0.items.length))).set 2 (.int .i64 y.trail)).set 3 (.int .i64 (aft y.trail ((y.items.length : Int) + 1)))).set 4 (.string s))
    have n_o6 := o6.frame (w' := (((((w19.setCell ⟨w.heap.size + 1 + 1, 0, none⟩ (.int .i64 1)).setCell ⟨w.heap.size + 1 + 1, 1, none⟩ (.int .i64 (aft x0.trail x0.items.length))).setCell ⟨w.heap.size + 1 + 1, 2, none⟩ (.int .i64 y.trail)).setCell ⟨w.heap.size + 1 + 1, 3, none⟩ (.int .i64 (aft y.trail ((y.items.length : Int) + 1)))).setCell ⟨w.heap.size + 1 + 1, 4, none⟩ (.string s))) fun b hb => by
      have h6 := g6 b hb
      repeat rw [Below.heap_setCell _ _ _ _ (by simp <;> omega)]
    have n_hB : Below w.heap.size w (((((w19.setCell ⟨w.heap.size + 1 + 1, 0, none⟩ (.int .i64 1)).setCell ⟨w.heap.size + 1 + 1, 1, none⟩ (.int .i64 (aft x0.trail x0.items.length))).setCell ⟨w.heap.size + 1 + 1, 2, none⟩ (.int .i64 y.trail)).setCell ⟨w.heap.size + 1 + 1, 3, none⟩ (.int .i64 (aft y.trail ((y.items.length : Int) + 1)))).setCell ⟨w.heap.size + 1 + 1, 4, none⟩ (.string s)) := by
      repeat refine Below.setCell ?_ (by simp <;> omega) _
      exact hB
    clear hB R0 RZ RP RO o6
    have hs_w20 : w19.heap.size ≤ (((((w19.setCell ⟨w.heap.size + 1 + 1, 0, none⟩ (.int .i64 1)).setCell ⟨w.heap.size + 1 + 1, 1, none⟩ (.int .i64 (aft x0.trail x0.items.length))).setCell ⟨w.heap.size + 1 + 1, 2, none⟩ (.int .i64 y.trail)).setCell ⟨w.heap.size + 1 + 1, 3, none⟩ (.int .i64 (aft y.trail ((y.items.length : Int) + 1)))).setCell ⟨w.heap.size + 1 + 1, 4, none⟩ (.string s)).heap.size := by simp
    generalize (((((w19.setCell ⟨w.heap.size + 1 + 1, 0, none⟩ (.int .i64 1)).setCell ⟨w.heap.size + 1 + 1, 1, none⟩ (.int .i64 (aft x0.trail x0.items.length))).setCell ⟨w.heap.size + 1 + 1, 2, none⟩ (.int .i64 y.trail)).setCell ⟨w.heap.size + 1 + 1, 3, none⟩ (.int .i64 (aft y.trail ((y.items.length : Int) + 1)))).setCell ⟨w.heap.size + 1 + 1, 4, none⟩ (.string s)) = w20 at *
    have hB := n_hB; clear n_hB
    have R0 := n_R0; clear n_R0
    have RZ := n_RZ; clear n_RZ
    have RP := n_RP; clear n_RP
    have RO := n_RO; clear n_RO
    have o6 := n_o6; clear n_o6
    clear hS
    have hS : (fun w' => w'.cell? ⟨w2.heap.size, 0, none⟩ = some (.int .i64 y.trail) ∧ w'.cell? ⟨w2.heap.size, 1, none⟩ = some (.int .i64 y.size) ∧ w'.cell? ⟨w2.heap.size, 2, none⟩ = some (.slice a6 (y.items.length + 1) c6)) w20 := ⟨RO.cells 0, RO.cells 1, RO.cells 2⟩
    refine hK.out _ _ (fun _ => hS) ?_
    clear hK K
    try simp only [Act.put, List.setIfInBounds_toArray, List.set_cons_zero, List.set_cons_succ]
    refine AnyX.done (by kernel_rfl) ?_ _
    (try clear hS)
    refine hK0 _ _ ?_
    clear hK0 K0
    obtain ⟨F7, hF7, s7⟩ := o6.sl (Weak.refl _)
    clear o6
    replace s7 := Lib.hid s7
    have c_R0 := R0.cells; have f_R0 := R0.frozens
    have c_RZ := RZ.cells; have f_RZ := RZ.frozens
    have c_RP := RP.cells; have f_RP := RP.frozens
    have c_RO := RO.cells; have f_RO := RO.frozens
    go_wp2_with fail
    refine bodyPost_ret (v := .tuple #[.agg #[.int .i64 y.trail, .int .i64 y.size, .slice a6 (y.items.length + 1) c6], .agg #[.int .i64 1, .int .i64 (aft x0.trail x0.items.length), .int .i64 y.trail, .int .i64 (aft y.trail ((y.items.length : Int) + 1)), .string s]]) ?_ rfl ?_
    · simp [results, Tryd.results100, go_sem, c_RZ, f_RZ, c_RP, f_RP]
    · have hry2 := hry.out
      have hyz2 := hyz.out
      rw [show pushedW x0 s = ⟨y.trail, y.size, y.items ++ [s]⟩ from by unfold pushedW; rw [hry2, hyz2]]
      refine ⟨_, F7, by unfold pushedP; rw [hry2], ⟨_, rfl, _, rfl, s7.out⟩, fun b hb => by have := g6 b (hF7 b hb); omega, hB⟩
end Go.Proofs.YtidephmobajikaaDoor
