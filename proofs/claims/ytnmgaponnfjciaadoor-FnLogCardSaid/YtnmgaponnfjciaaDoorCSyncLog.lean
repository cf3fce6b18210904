/- The contracts of SyncLog in the form that the law's proof takes. Written by wip/src/LogC.py. -/
import Derived.Test.YtnmgaponnfjciaaDoorCRecoverLog
namespace Go.Proofs.YtnmgaponnfjciaaDoor
open Go.RowKit
def resSyncLog (x0 : Log) : Log × Bool := if validR x0.durable.data.toList x0.pending.data.toList x0.count then (⟨x0.durable ++ x0.pending, ⟨#[]⟩, x0.count⟩, true) else (⟨⟨#[]⟩, ⟨#[]⟩, 0⟩, false)
def PS_SyncLog : Log × Bool → World → Ending → World → Prop := fun (r0, r1) w e w' => ∃ u0 G0, e = .returned (.tuple #[u0, .bool r1]) ∧ IsV ELog w' u0 r0 G0 ∧ Below w.heap.size w w'
def PI_SyncLog : Log × Bool → World → Ending → World → Prop := fun (r0, r1) w e w' => ∃ u0 G0, e = .returned (.tuple #[u0, .bool r1]) ∧ IsV ELog w' u0 r0 G0 ∧ (G0).Nodup ∧ (∀ b ∈ G0, w.heap.size ≤ b) ∧ Below w.heap.size w w'
set_option maxHeartbeats 1600000 in
set_option maxRecDepth 100000 in
theorem specSyncLog_c (v0 : Value) (x0 : Log) (F0 : List Nat) (w : World) (h0 : IsV ELog w v0 x0 F0) (hw0 : wtLog x0 ≤ 1048576) :
    Calls Tryd.prog 26 #[v0] w (PS_SyncLog (resSyncLog x0) w) := by
  obtain ⟨_, rfl, rfl, s1, s2, rfl⟩ := h0
  have hw := hw0; unfold wtLog at hw
  unfold maxLen at s1 s2
  have hV := fun w => l27Log_c x0.durable x0.pending x0.count w hw
  cases hv : validR x0.durable.data.toList x0.pending.data.toList x0.count
  · have hP : ∀ w', Below w.heap.size w w' → PS_SyncLog (resSyncLog x0) w (.returned (.tuple #[.agg #[.string ⟨#[]⟩, .string ⟨#[]⟩, .int .i64 0], .bool false])) w' := fun w' hB => by
      unfold resSyncLog; rw [hv]; exact ⟨_, [], rfl, isLog _ _ _ _ (by decide) (by decide), hB⟩
    rw [hv] at hV; replace hV := Lib.hid hV; replace hP := Lib.hid hP; clear hv
    go_enter Tryd.func26, Tryd.ntmps26
    go_wp2_with fail
    have al : Below w.heap.size w ((w.alloc (.cells #[.string x0.durable, .string x0.pending, .int .i64 x0.count] 31)).alloc (.cells #[.string ⟨#[]⟩, .string ⟨#[]⟩, .int .i64 0] 31)) := by
      repeat refine Below.alloc ?_ (by simp <;> omega) _
      exact Below.refl _ _
    have n_R0 : Row ((w.alloc (.cells #[.string x0.durable, .string x0.pending, .int .i64 x0.count] 31)).alloc (.cells #[.string ⟨#[]⟩, .string ⟨#[]⟩, .int .i64 0] 31)) (w.heap.size) 31 [.string x0.durable, .string x0.pending, .int .i64 x0.count] := by simp [row_alloc] <;> omega
    have n_RZ : Row ((w.alloc (.cells #[.string x0.durable, .string x0.pending, .int .i64 x0.count] 31)).alloc (.cells #[.string ⟨#[]⟩, .string ⟨#[]⟩, .int .i64 0] 31)) (w.heap.size + 1) 31 [.string ⟨#[]⟩, .string ⟨#[]⟩, .int .i64 0] := by simp [row_alloc] <;> omega
    have hs_w1 : w.heap.size + 1 < ((w.alloc (.cells #[.string x0.durable, .string x0.pending, .int .i64 x0.count] 31)).alloc (.cells #[.string ⟨#[]⟩, .string ⟨#[]⟩, .int .i64 0] 31)).heap.size := by simp <;> omega
    have hB := al
    generalize ((w.alloc (.cells #[.string x0.durable, .string x0.pending, .int .i64 x0.count] 31)).alloc (.cells #[.string ⟨#[]⟩, .string ⟨#[]⟩, .int .i64 0] 31)) = w1 at *
    have R0 := n_R0; clear n_R0
    have RZ := n_RZ; clear n_RZ
    clear al
    have c_R0 := R0.cells; have f_R0 := R0.frozens
    have c_RZ := RZ.cells; have f_RZ := RZ.frozens
    go_wp2_with fail
    clear c_R0 f_R0 c_RZ f_RZ
    refine (hV.out _).mono ?_
    rintro e w2 ⟨rfl, hb⟩
    have hs_w2 := hb.size
    replace R0 := R0.below hb
    replace RZ := RZ.below hb
    replace hB := tr hB hb (Nat.le_refl _)
    clear hb
    have c_R0 := R0.cells; have f_R0 := R0.frozens
    have c_RZ := RZ.cells; have f_RZ := RZ.frozens
    go_wp2_with fail
    refine bodyPost_ret (v := .tuple #[.agg #[.string ⟨#[]⟩, .string ⟨#[]⟩, .int .i64 0], .bool false]) ?_ rfl ?_
    · simp [results, Tryd.results26, go_sem, c_RZ, f_RZ]
    · refine hP.out _ ?_
      repeat refine Below.setCell ?_ (by simp <;> omega) _
      exact hB
  · have hP : ∀ w', Below w.heap.size w w' → PS_SyncLog (resSyncLog x0) w (.returned (.tuple #[.agg #[.string (x0.durable ++ x0.pending), .string ⟨#[]⟩, .int .i64 x0.count], .bool true])) w' := fun w' hB => by
      unfold resSyncLog; rw [hv]; exact ⟨_, [], rfl, isLog _ _ _ _ (by unfold maxLen; simp; omega) (by decide), hB⟩
    rw [hv] at hV; replace hV := Lib.hid hV; replace hP := Lib.hid hP; clear hv
    go_enter Tryd.func26, Tryd.ntmps26
    go_wp2_with fail
    have al : Below w.heap.size w ((w.alloc (.cells #[.string x0.durable, .string x0.pending, .int .i64 x0.count] 31)).alloc (.cells #[.string ⟨#[]⟩, .string ⟨#[]⟩, .int .i64 0] 31)) := by
      repeat refine Below.alloc ?_ (by simp <;> omega) _
      exact Below.refl _ _
    have n_R0 : Row ((w.alloc (.cells #[.string x0.durable, .string x0.pending, .int .i64 x0.count] 31)).alloc (.cells #[.string ⟨#[]⟩, .string ⟨#[]⟩, .int .i64 0] 31)) (w.heap.size) 31 [.string x0.durable, .string x0.pending, .int .i64 x0.count] := by simp [row_alloc] <;> omega
    have n_RZ : Row ((w.alloc (.cells #[.string x0.durable, .string x0.pending, .int .i64 x0.count] 31)).alloc (.cells #[.string ⟨#[]⟩, .string ⟨#[]⟩, .int .i64 0] 31)) (w.heap.size + 1) 31 [.string ⟨#[]⟩, .string ⟨#[]⟩, .int .i64 0] := by simp [row_alloc] <;> omega
    have hs_w3 : w.heap.size + 1 < ((w.alloc (.cells #[.string x0.durable, .string x0.pending, .int .i64 x0.count] 31)).alloc (.cells #[.string ⟨#[]⟩, .string ⟨#[]⟩, .int .i64 0] 31)).heap.size := by simp <;> omega
    have hB := al
    generalize ((w.alloc (.cells #[.string x0.durable, .string x0.pending, .int .i64 x0.count] 31)).alloc (.cells #[.string ⟨#[]⟩, .string ⟨#[]⟩, .int .i64 0] 31)) = w3 at *
    have R0 := n_R0; clear n_R0
    have RZ := n_RZ; clear n_RZ
    clear al
    have c_R0 := R0.cells; have f_R0 := R0.frozens
    have c_RZ := RZ.cells; have f_RZ := RZ.frozens
    go_wp2_with fail
    clear c_R0 f_R0 c_RZ f_RZ
    refine (hV.out _).mono ?_
    rintro e w4 ⟨rfl, hb⟩
    have hs_w4 := hb.size
    replace R0 := R0.below hb
    replace RZ := RZ.below hb
    replace hB := tr hB hb (Nat.le_refl _)
    clear hb
    have c_R0 := R0.cells; have f_R0 := R0.frozens
    have c_RZ := RZ.cells; have f_RZ := RZ.frozens
    go_wp2_with fail
    refine bodyPost_ret (v := .tuple #[.agg #[.string (x0.durable ++ x0.pending), .string ⟨#[]⟩, .int .i64 x0.count], .bool true]) ?_ rfl ?_
    · simp [results, Tryd.results26, go_sem, c_RZ, f_RZ]
    · refine hP.out _ ?_
      repeat refine Below.setCell ?_ (by simp <;> omega) _
      exact hB
set_option maxHeartbeats 1600000 in
set_option maxRecDepth 100000 in
theorem SyncLog_c (v0 : Value) (x0 : Log) (F0 : List Nat) (FT : List Nat) (w : World) (h0 : IsV ELog w v0 x0 F0) (hw0 : wtLog x0 ≤ 1048576) (hT : IsV ETab w (.agg #[]) () FT) :
    Calls Tryd.prog 27 #[v0] w (PI_SyncLog (resSyncLog x0) w) := by
  obtain ⟨_, rfl, rfl, s1, s2, rfl⟩ := h0
  have hw := hw0; unfold wtLog at hw
  unfold maxLen at s1 s2
  have hV := fun w hT => IsValidLog_v x0.durable x0.pending x0.count FT w hw hT
  cases hv : validR x0.durable.data.toList x0.pending.data.toList x0.count
  · have hP : ∀ w', Below w.heap.size w w' → PI_SyncLog (resSyncLog x0) w (.returned (.tuple #[.agg #[.string ⟨#[]⟩, .string ⟨#[]⟩, .int .i64 0], .bool false])) w' := fun w' hB => by
      unfold resSyncLog; rw [hv]; exact ⟨_, [], rfl, isLog _ _ _ _ (by decide) (by decide), by simp, by simp, hB⟩
    rw [hv] at hV; replace hV := Lib.hid hV; replace hP := Lib.hid hP; clear hv
    go_enter Tryd.func27, Tryd.ntmps27
    go_wp2_with fail
    have al : Below w.heap.size w ((w.alloc (.cells #[.string x0.durable, .string x0.pending, .int .i64 x0.count] 31)).alloc (.cells #[.string ⟨#[]⟩, .string ⟨#[]⟩, .int .i64 0] 31)) := by
      repeat refine Below.alloc ?_ (by simp <;> omega) _
      exact Below.refl _ _
    have n_R0 : Row ((w.alloc (.cells #[.string x0.durable, .string x0.pending, .int .i64 x0.count] 31)).alloc (.cells #[.string ⟨#[]⟩, .string ⟨#[]⟩, .int .i64 0] 31)) (w.heap.size) 31 [.string x0.durable, .string x0.pending, .int .i64 x0.count] := by simp [row_alloc] <;> omega
    have n_RZ : Row ((w.alloc (.cells #[.string x0.durable, .string x0.pending, .int .i64 x0.count] 31)).alloc (.cells #[.string ⟨#[]⟩, .string ⟨#[]⟩, .int .i64 0] 31)) (w.heap.size + 1) 31 [.string ⟨#[]⟩, .string ⟨#[]⟩, .int .i64 0] := by simp [row_alloc] <;> omega
    have hs_w1 : w.heap.size + 1 < ((w.alloc (.cells #[.string x0.durable, .string x0.pending, .int .i64 x0.count] 31)).alloc (.cells #[.string ⟨#[]⟩, .string ⟨#[]⟩, .int .i64 0] 31)).heap.size := by simp <;> omega
    replace hT := hT.below al
    have hB := al
    generalize ((w.alloc (.cells #[.string x0.durable, .string x0.pending, .int .i64 x0.count] 31)).alloc (.cells #[.string ⟨#[]⟩, .string ⟨#[]⟩, .int .i64 0] 31)) = w1 at *
    have R0 := n_R0; clear n_R0
    have RZ := n_RZ; clear n_RZ
    clear al
    have c_R0 := R0.cells; have f_R0 := R0.frozens
    have c_RZ := RZ.cells; have f_RZ := RZ.frozens
    go_wp2_with fail
    clear c_R0 f_R0 c_RZ f_RZ
    refine (hV.out _ hT).mono ?_
    rintro e w2 ⟨rfl, hb⟩
    have hs_w2 := hb.size
    replace R0 := R0.below hb
    replace RZ := RZ.below hb
    replace hT := hT.below hb
    replace hB := tr hB hb (Nat.le_refl _)
    clear hb
    have c_R0 := R0.cells; have f_R0 := R0.frozens
    have c_RZ := RZ.cells; have f_RZ := RZ.frozens
    go_wp2_with fail
    refine bodyPost_ret (v := .tuple #[.agg #[.string ⟨#[]⟩, .string ⟨#[]⟩, .int .i64 0], .bool false]) ?_ rfl ?_
    · simp [results, Tryd.results27, go_sem, c_RZ, f_RZ]
    · refine hP.out _ ?_
      repeat refine Below.setCell ?_ (by simp <;> omega) _
      exact hB
  · have hP : ∀ w', Below w.heap.size w w' → PI_SyncLog (resSyncLog x0) w (.returned (.tuple #[.agg #[.string (x0.durable ++ x0.pending), .string ⟨#[]⟩, .int .i64 x0.count], .bool true])) w' := fun w' hB => by
      unfold resSyncLog; rw [hv]; exact ⟨_, [], rfl, isLog _ _ _ _ (by unfold maxLen; simp; omega) (by decide), by simp, by simp, hB⟩
    rw [hv] at hV; replace hV := Lib.hid hV; replace hP := Lib.hid hP; clear hv
    go_enter Tryd.func27, Tryd.ntmps27
    go_wp2_with fail
    have al : Below w.heap.size w ((w.alloc (.cells #[.string x0.durable, .string x0.pending, .int .i64 x0.count] 31)).alloc (.cells #[.string ⟨#[]⟩, .string ⟨#[]⟩, .int .i64 0] 31)) := by
      repeat refine Below.alloc ?_ (by simp <;> omega) _
      exact Below.refl _ _
    have n_R0 : Row ((w.alloc (.cells #[.string x0.durable, .string x0.pending, .int .i64 x0.count] 31)).alloc (.cells #[.string ⟨#[]⟩, .string ⟨#[]⟩, .int .i64 0] 31)) (w.heap.size) 31 [.string x0.durable, .string x0.pending, .int .i64 x0.count] := by simp [row_alloc] <;> omega
    have n_RZ : Row ((w.alloc (.cells #[.string x0.durable, .string x0.pending, .int .i64 x0.count] 31)).alloc (.cells #[.string ⟨#[]⟩, .string ⟨#[]⟩, .int .i64 0] 31)) (w.heap.size + 1) 31 [.string ⟨#[]⟩, .string ⟨#[]⟩, .int .i64 0] := by simp [row_alloc] <;> omega
    have hs_w3 : w.heap.size + 1 < ((w.alloc (.cells #[.string x0.durable, .string x0.pending, .int .i64 x0.count] 31)).alloc (.cells #[.string ⟨#[]⟩, .string ⟨#[]⟩, .int .i64 0] 31)).heap.size := by simp <;> omega
    replace hT := hT.below al
    have hB := al
    generalize ((w.alloc (.cells #[.string x0.durable, .string x0.pending, .int .i64 x0.count] 31)).alloc (.cells #[.string ⟨#[]⟩, .string ⟨#[]⟩, .int .i64 0] 31)) = w3 at *
    have R0 := n_R0; clear n_R0
    have RZ := n_RZ; clear n_RZ
    clear al
    have c_R0 := R0.cells; have f_R0 := R0.frozens
    have c_RZ := RZ.cells; have f_RZ := RZ.frozens
    go_wp2_with fail
    clear c_R0 f_R0 c_RZ f_RZ
    refine (hV.out _ hT).mono ?_
    rintro e w4 ⟨rfl, hb⟩
    have hs_w4 := hb.size
    replace R0 := R0.below hb
    replace RZ := RZ.below hb
    replace hT := hT.below hb
    replace hB := tr hB hb (Nat.le_refl _)
    clear hb
    have c_R0 := R0.cells; have f_R0 := R0.frozens
    have c_RZ := RZ.cells; have f_RZ := RZ.frozens
    go_wp2_with fail
    refine bodyPost_ret (v := .tuple #[.agg #[.string (x0.durable ++ x0.pending), .string ⟨#[]⟩, .int .i64 x0.count], .bool true]) ?_ rfl ?_
    · simp [results, Tryd.results27, go_sem, c_RZ, f_RZ]
    · refine hP.out _ ?_
      repeat refine Below.setCell ?_ (by simp <;> omega) _
      exact hB
end Go.Proofs.YtnmgaponnfjciaaDoor
