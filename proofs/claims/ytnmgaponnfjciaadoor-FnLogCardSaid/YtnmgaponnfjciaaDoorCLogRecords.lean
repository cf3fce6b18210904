/- The contracts of LogRecords in the form that the law's proof takes. Written by wip/src/LogC.py. -/
import Derived.Test.YtnmgaponnfjciaaDoorCRecoverLog
namespace Go.Proofs.YtnmgaponnfjciaaDoor
open Go.RowKit
def resLogRecords (x0 : Log) : (List LogRecord) × Bool := if validR x0.durable.data.toList x0.pending.data.toList x0.count then ((opened (x0.durable.data.toList ++ x0.pending.data.toList)).map recL, true) else ([], false)
def PS_LogRecords : (List LogRecord) × Bool → World → Ending → World → Prop := fun (r0, r1) w e w' => ∃ u0 G0, e = .returned (.tuple #[u0, .bool r1]) ∧ Sl ELogRecord w' u0 r0 G0 ∧ Below w.heap.size w w'
def PI_LogRecords : (List LogRecord) × Bool → World → Ending → World → Prop := fun (r0, r1) w e w' => ∃ u0 G0, e = .returned (.tuple #[u0, .bool r1]) ∧ Ow ELogRecord 27 w' u0 r0 G0 ∧ (G0).Nodup ∧ (∀ b ∈ G0, w.heap.size ≤ b) ∧ Below w.heap.size w w'
theorem recL_len {x : Bs} (h : ∃ j, okL j x = true) : cntLogRecord (recL x) ≤ 1000 := by
  obtain ⟨j, hj⟩ := h
  obtain ⟨c, r, _, hg, rfl⟩ := okL_iff.1 hj
  have hG := goodL_good hg
  have := cntLogRecord_wt (recL (lineL j c r))
  have h1 : wtLogRecord (recL (lineL j c r)) ≤ 360 := by
    unfold recL wtLogRecord
    simp only [cmd_line hG, rep_line hG, bs_size]
    have := hG.c1; have := hG.r1; omega
  omega
theorem cntL_recL : ∀ (k : Nat) (xs : List Bs), (∀ x ∈ xs, ∃ j, okL j x = true) → cntL cntLogRecord (xs.map recL) ≤ 1000 * xs.length
  | _, [], _ => by simp [cntL]
  | k, x :: r, h => by
    have h1 := recL_len (h x (by simp))
    have h2 := cntL_recL k r fun y hy => h y (by simp [hy])
    unfold cntL at h2 ⊢
    simp only [List.map_cons, List.sum_cons, List.length_cons]; omega
theorem resLogRecords_cv (x0 : Log) (_h0 : wtLog x0 ≤ 1048576) : cntL cntLogRecord ((resLogRecords x0).1) ≤ 4294967296 := by
  unfold resLogRecords
  split
  · have h1 := cntL_recL 0 (opened (x0.durable.data.toList ++ x0.pending.data.toList)) (fun x hx => acc_mem 0 _ x hx)
    have h2 := (opened_small (x0.durable.data.toList ++ x0.pending.data.toList)).2
    dsimp only; omega
  · simp [cntL]
set_option maxHeartbeats 1600000 in
set_option maxRecDepth 100000 in
theorem specLogRecords_c (v0 : Value) (x0 : Log) (F0 : List Nat) (w : World) (h0 : IsV ELog w v0 x0 F0) (hw0 : wtLog x0 ≤ 1048576) :
    Calls Tryd.prog 30 #[v0] w (PS_LogRecords (resLogRecords x0) w) := by
  obtain ⟨_, rfl, rfl, s1, s2, rfl⟩ := h0
  have hw := hw0; unfold wtLog at hw
  unfold maxLen at s1 s2
  have hV := fun w => l27Log_c x0.durable x0.pending x0.count w hw
  cases hv : validR x0.durable.data.toList x0.pending.data.toList x0.count
  · have hP : ∀ b w', Below w.heap.size w w' → PS_LogRecords (resLogRecords x0) w (.returned (.tuple #[.slice (some ⟨b, 0, none⟩) 0 0, .bool false])) w' := fun b w' hB => by
      unfold resLogRecords; rw [hv]; exact ⟨_, [], rfl, ⟨some ⟨b, 0, none⟩, 0, rfl, ⟨by simp, by simp⟩, .inl ⟨rfl, rfl, fun e => by cases e⟩⟩, hB⟩
    rw [hv] at hV; replace hV := Lib.hid hV; replace hP := Lib.hid hP; clear hv
    go_enter Tryd.func30, Tryd.ntmps30
    go_wp2_with fail
    have al : Below w.heap.size w (w.alloc (.cells #[.string x0.durable, .string x0.pending, .int .i64 x0.count] 31)) := by
      repeat refine Below.alloc ?_ (by simp <;> omega) _
      exact Below.refl _ _
    have n_R0 := Row.made w 31 [.string x0.durable, .string x0.pending, .int .i64 x0.count]
    have hs_w1 : w.heap.size < (w.alloc (.cells #[.string x0.durable, .string x0.pending, .int .i64 x0.count] 31)).heap.size := by simp
    have hB := al
    generalize (w.alloc (.cells #[.string x0.durable, .string x0.pending, .int .i64 x0.count] 31)) = w1 at *
    have R0 := n_R0; clear n_R0
    clear al
    have c_R0 := R0.cells; have f_R0 := R0.frozens
    go_wp2_with fail
    clear c_R0 f_R0
    refine (hV.out _).mono ?_
    rintro e w2 ⟨rfl, hb⟩
    have hs_w2 := hb.size
    replace R0 := R0.below hb
    replace hB := tr hB hb (Nat.le_refl _)
    clear hb
    have c_R0 := R0.cells; have f_R0 := R0.frozens
    go_wp2_with fail
    refine bodyPost_ret (v := .tuple #[.slice (some ⟨w2.heap.size, 0, none⟩) 0 0, .bool false]) ?_ rfl ?_
    · simp [results, Tryd.results30, go_sem]
    · refine hP.out _ _ ?_
      exact hB.alloc (by omega) _
  · have hP : ∀ w' u G, Sl ELogRecord w' u ((opened (x0.durable.data.toList ++ x0.pending.data.toList)).map recL) G → Below w.heap.size w w' → PS_LogRecords (resLogRecords x0) w (.returned (.tuple #[u, .bool true])) w' := fun w' u G h1 hB => by
      unfold resLogRecords; rw [hv]; exact ⟨_, G, rfl, h1, hB⟩
    have hO := fun w => l27Open_c (x0.durable ++ x0.pending) w (by simp; omega)
    unfold POpen at hO
    rw [app_list] at hO
    generalize opened (x0.durable.data.toList ++ x0.pending.data.toList) = A at *
    rw [hv] at hV; replace hV := Lib.hid hV; replace hP := Lib.hid hP; replace hO := Lib.hid hO; clear hv
    go_enter Tryd.func30, Tryd.ntmps30
    go_wp2_with fail
    have al : Below w.heap.size w (w.alloc (.cells #[.string x0.durable, .string x0.pending, .int .i64 x0.count] 31)) := by
      repeat refine Below.alloc ?_ (by simp <;> omega) _
      exact Below.refl _ _
    have n_R0 := Row.made w 31 [.string x0.durable, .string x0.pending, .int .i64 x0.count]
    have hs_w3 : w.heap.size < (w.alloc (.cells #[.string x0.durable, .string x0.pending, .int .i64 x0.count] 31)).heap.size := by simp
    have hB := al
    generalize (w.alloc (.cells #[.string x0.durable, .string x0.pending, .int .i64 x0.count] 31)) = w3 at *
    have R0 := n_R0; clear n_R0
    clear al
    have c_R0 := R0.cells; have f_R0 := R0.frozens
    go_wp2_with fail
    clear c_R0 f_R0
    refine (hV.out _).mono ?_
    rintro e w4 ⟨rfl, hb⟩
    have hs_w4 := hb.size
    replace R0 := R0.below hb
    replace hB := tr hB hb (Nat.le_refl _)
    clear hb
    have c_R0 := R0.cells; have f_R0 := R0.frozens
    go_wp2_with fail
    clear c_R0 f_R0
    refine (hO.out _).mono ?_
    rintro e w5 ⟨u0, G0, rfl, o0, n0, f0, hb⟩
    have hs_w5 := hb.size
    replace R0 := R0.below hb
    replace hB := tr hB hb (Nat.le_refl _)
    clear hb
    obtain ⟨G, -, so⟩ := o0.read
    clear o0
    replace so := Lib.hid so
    have c_R0 := R0.cells; have f_R0 := R0.frozens
    go_wp2_with fail
    refine bodyPost_ret (v := .tuple #[u0, .bool true]) ?_ rfl ?_
    · simp [results, Tryd.results30, go_sem]
    · exact hP.out _ _ G so.out hB
set_option maxHeartbeats 1600000 in
set_option maxRecDepth 100000 in
theorem LogRecords_c (v0 : Value) (x0 : Log) (F0 : List Nat) (FT : List Nat) (w : World) (h0 : IsV ELog w v0 x0 F0) (hw0 : wtLog x0 ≤ 1048576) (hT : IsV ETab w (.agg #[]) () FT) :
    Calls Tryd.prog 31 #[v0] w (PI_LogRecords (resLogRecords x0) w) := by
  obtain ⟨_, rfl, rfl, s1, s2, rfl⟩ := h0
  have hw := hw0; unfold wtLog at hw
  unfold maxLen at s1 s2
  have hV := fun w hT => IsValidLog_v x0.durable x0.pending x0.count FT w hw hT
  cases hv : validR x0.durable.data.toList x0.pending.data.toList x0.count
  · have hP : ∀ w', Below w.heap.size w w' → PI_LogRecords (resLogRecords x0) w (.returned (.tuple #[.slice none 0 0, .bool false])) w' := fun w' hB => by
      unfold resLogRecords; rw [hv]; exact ⟨_, [], rfl, .inl ⟨rfl, rfl, rfl⟩, by simp, by simp, hB⟩
    rw [hv] at hV; replace hV := Lib.hid hV; replace hP := Lib.hid hP; clear hv
    go_enter Tryd.func31, Tryd.ntmps31
    go_wp2_with fail
    have al : Below w.heap.size w (w.alloc (.cells #[.string x0.durable, .string x0.pending, .int .i64 x0.count] 31)) := by
      repeat refine Below.alloc ?_ (by simp <;> omega) _
      exact Below.refl _ _
    have n_R0 := Row.made w 31 [.string x0.durable, .string x0.pending, .int .i64 x0.count]
    have hs_w1 : w.heap.size < (w.alloc (.cells #[.string x0.durable, .string x0.pending, .int .i64 x0.count] 31)).heap.size := by simp
    replace hT := hT.below al
    have hB := al
    generalize (w.alloc (.cells #[.string x0.durable, .string x0.pending, .int .i64 x0.count] 31)) = w1 at *
    have R0 := n_R0; clear n_R0
    clear al
    have c_R0 := R0.cells; have f_R0 := R0.frozens
    go_wp2_with fail
    clear c_R0 f_R0
    refine (hV.out _ hT).mono ?_
    rintro e w2 ⟨rfl, hb⟩
    have hs_w2 := hb.size
    replace R0 := R0.below hb
    replace hT := hT.below hb
    replace hB := tr hB hb (Nat.le_refl _)
    clear hb
    have c_R0 := R0.cells; have f_R0 := R0.frozens
    go_wp2_with fail
    refine bodyPost_ret (v := .tuple #[.slice none 0 0, .bool false]) ?_ rfl ?_
    · simp [results, Tryd.results31, go_sem]
    · refine hP.out _ ?_
      repeat refine Below.setCell ?_ (by simp <;> omega) _
      exact hB
  · have hP : ∀ w' u G, Ow ELogRecord 27 w' u ((opened (x0.durable.data.toList ++ x0.pending.data.toList)).map recL) G → G.Nodup → (∀ b ∈ G, w.heap.size ≤ b) → Below w.heap.size w w' → PI_LogRecords (resLogRecords x0) w (.returned (.tuple #[u, .bool true])) w' := fun w' u G h1 h2 h3 hB => by
      unfold resLogRecords; rw [hv]; exact ⟨_, G, rfl, h1, h2, h3, hB⟩
    have hO := fun w hT => readRecords_c (x0.durable ++ x0.pending) FT w (by simp; omega) hT
    unfold PRead at hO
    rw [app_list] at hO
    generalize opened (x0.durable.data.toList ++ x0.pending.data.toList) = A at *
    rw [hv] at hV; replace hV := Lib.hid hV; replace hP := Lib.hid hP; replace hO := Lib.hid hO; clear hv
    go_enter Tryd.func31, Tryd.ntmps31
    go_wp2_with fail
    have al : Below w.heap.size w (w.alloc (.cells #[.string x0.durable, .string x0.pending, .int .i64 x0.count] 31)) := by
      repeat refine Below.alloc ?_ (by simp <;> omega) _
      exact Below.refl _ _
    have n_R0 := Row.made w 31 [.string x0.durable, .string x0.pending, .int .i64 x0.count]
    have hs_w3 : w.heap.size < (w.alloc (.cells #[.string x0.durable, .string x0.pending, .int .i64 x0.count] 31)).heap.size := by simp
    replace hT := hT.below al
    have hB := al
    generalize (w.alloc (.cells #[.string x0.durable, .string x0.pending, .int .i64 x0.count] 31)) = w3 at *
    have R0 := n_R0; clear n_R0
    clear al
    have c_R0 := R0.cells; have f_R0 := R0.frozens
    go_wp2_with fail
    clear c_R0 f_R0
    refine (hV.out _ hT).mono ?_
    rintro e w4 ⟨rfl, hb⟩
    have hs_w4 := hb.size
    replace R0 := R0.below hb
    replace hT := hT.below hb
    replace hB := tr hB hb (Nat.le_refl _)
    clear hb
    have c_R0 := R0.cells; have f_R0 := R0.frozens
    go_wp2_with fail
    clear c_R0 f_R0
    refine (hO.out _ hT).mono ?_
    rintro e w5 ⟨u0, G0, u1, G1, rfl, o0, n0, o1, n1, f0, f1, -, hb⟩
    have hs_w5 := hb.size
    replace R0 := R0.below hb
    replace hT := hT.below hb
    replace hB := tr hB hb (Nat.le_refl _)
    clear hb
    clear o1 n1 f1
    replace o0 := Lib.hid o0; replace f0 := Lib.hid f0; replace n0 := Lib.hid n0
    have c_R0 := R0.cells; have f_R0 := R0.frozens
    go_wp2_with fail
    refine bodyPost_ret (v := .tuple #[u0, .bool true]) ?_ rfl ?_
    · simp [results, Tryd.results31, go_sem]
    · exact hP.out _ _ G0 o0.out n0.out (fun b hb => by have := f0.out b hb; omega) hB
end Go.Proofs.YtnmgaponnfjciaaDoor
