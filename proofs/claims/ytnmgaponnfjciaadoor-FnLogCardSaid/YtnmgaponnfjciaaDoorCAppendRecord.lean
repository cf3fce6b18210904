/- The contracts of AppendRecord in the form that the law's proof takes. Written by wip/src/LogC.py. -/
import Derived.Test.YtnmgaponnfjciaaDoorCRecoverLog
namespace Go.Proofs.YtnmgaponnfjciaaDoor
open Go.RowKit
def resAppendRecord (x0 : Log) (x1 : LogRecord) : Log × Int := if !(validR x0.durable.data.toList x0.pending.data.toList x0.count) || !goodRec x1.command x1.reply then (x0, 1) else if x0.count = 60 then (x0, 2) else (⟨x0.durable, x0.pending ++ bs (lineL x0.count.toNat x1.command.data.toList x1.reply.data.toList), x0.count + 1⟩, 0)
def PS_AppendRecord : Log × Int → World → Ending → World → Prop := fun (r0, r1) w e w' => ∃ u0 G0, e = .returned (.tuple #[u0, .int .i64 r1]) ∧ IsV ELog w' u0 r0 G0 ∧ Below w.heap.size w w'
def PI_AppendRecord : Log × Int → World → Ending → World → Prop := fun (r0, r1) w e w' => ∃ u0 G0, e = .returned (.tuple #[u0, .int .i64 r1]) ∧ IsV ELog w' u0 r0 G0 ∧ (G0).Nodup ∧ (∀ b ∈ G0, w.heap.size ≤ b) ∧ Below w.heap.size w w'
theorem valid_count {d p : Bs} {n : Int} (h : validR d p n = true) : 0 ≤ n ∧ n ≤ 60 := by
  have h1 := (valid_of h).cnt
  have h2 := (opened_small (d ++ p)).2
  omega
theorem line_size {k : Nat} {c r : ByteArray} (hk : k ≤ 59) (h : goodRec c r = true) : (bs (lineL k c.data.toList r.data.toList)).size ≤ 372 := by
  rw [bs_size]; exact lineL_len hk (goodL_good (by rw [← goodRec_L]; exact h))
set_option maxHeartbeats 3200000 in
set_option maxRecDepth 100000 in
theorem specAppendRecord_c (v0 : Value) (x0 : Log) (F0 : List Nat) (v1 : Value) (x1 : LogRecord) (F1 : List Nat) (w : World) (h0 : IsV ELog w v0 x0 F0) (h1 : IsV ELogRecord w v1 x1 F1) (hw0 : wtLog x0 ≤ 1048576) (hw1 : wtLogRecord x1 ≤ 1048576) :
    Calls Tryd.prog 28 #[v0, v1] w (PS_AppendRecord (resAppendRecord x0 x1) w) := by
  obtain ⟨_, rfl, rfl, s1, s2, rfl⟩ := h0
  have hw := hw0; unfold wtLog at hw
  unfold maxLen at s1 s2
  obtain ⟨_, rfl, rfl, s3, s4, rfl⟩ := h1
  have hV := fun w => l27Log_c x0.durable x0.pending x0.count w hw
  have hG := fun w => l27Good_c x1.command x1.reply w s3 s4
  unfold maxLen at s3 s4
  cases hv : validR x0.durable.data.toList x0.pending.data.toList x0.count
  · have hP : ∀ w', Below w.heap.size w w' → PS_AppendRecord (resAppendRecord x0 x1) w (.returned (.tuple #[.agg #[.string x0.durable, .string x0.pending, .int .i64 x0.count], .int .i64 1])) w' := fun w' hB => by
      unfold resAppendRecord; rw [hv]; simp only [Bool.not_false, Bool.true_or, if_true]; exact ⟨_, [], rfl, isLog _ _ _ _ (by unfold maxLen; omega) (by unfold maxLen; omega), hB⟩
    rw [hv] at hV; replace hV := Lib.hid hV; replace hG := Lib.hid hG; replace hP := Lib.hid hP; clear hv
    go_enter Tryd.func28, Tryd.ntmps28
    go_wp2_with fail
    have al : Below w.heap.size w (((w.alloc (.cells #[.string x0.durable, .string x0.pending, .int .i64 x0.count] 31)).alloc (.cells #[.string x1.command, .string x1.reply] 27)).alloc (.cells #[.string ⟨#[]⟩, .string ⟨#[]⟩, .int .i64 0] 31)) := by
      repeat refine Below.alloc ?_ (by simp <;> omega) _
      exact Below.refl _ _
    have n_R0 : Row (((w.alloc (.cells #[.string x0.durable, .string x0.pending, .int .i64 x0.count] 31)).alloc (.cells #[.string x1.command, .string x1.reply] 27)).alloc (.cells #[.string ⟨#[]⟩, .string ⟨#[]⟩, .int .i64 0] 31)) (w.heap.size) 31 [.string x0.durable, .string x0.pending, .int .i64 x0.count] := by simp [row_alloc] <;> omega
    have n_R1 : Row (((w.alloc (.cells #[.string x0.durable, .string x0.pending, .int .i64 x0.count] 31)).alloc (.cells #[.string x1.command, .string x1.reply] 27)).alloc (.cells #[.string ⟨#[]⟩, .string ⟨#[]⟩, .int .i64 0] 31)) (w.heap.size + 1) 27 [.string x1.command, .string x1.reply] := by simp [row_alloc] <;> omega
    have n_RZ : Row (((w.alloc (.cells #[.string x0.durable, .string x0.pending, .int .i64 x0.count] 31)).alloc (.cells #[.string x1.command, .string x1.reply] 27)).alloc (.cells #[.string ⟨#[]⟩, .string ⟨#[]⟩, .int .i64 0] 31)) (w.heap.size + 1 + 1) 31 [.string ⟨#[]⟩, .string ⟨#[]⟩, .int .i64 0] := by simp [row_alloc] <;> omega
    have hs_w1 : w.heap.size + 1 + 1 < (((w.alloc (.cells #[.string x0.durable, .string x0.pending, .int .i64 x0.count] 31)).alloc (.cells #[.string x1.command, .string x1.reply] 27)).alloc (.cells #[.string ⟨#[]⟩, .string ⟨#[]⟩, .int .i64 0] 31)).heap.size := by simp <;> omega
    have hB := al
    generalize (((w.alloc (.cells #[.string x0.durable, .string x0.pending, .int .i64 x0.count] 31)).alloc (.cells #[.string x1.command, .string x1.reply] 27)).alloc (.cells #[.string ⟨#[]⟩, .string ⟨#[]⟩, .int .i64 0] 31)) = w1 at *
    have R0 := n_R0; clear n_R0
    have R1 := n_R1; clear n_R1
    have RZ := n_RZ; clear n_RZ
    clear al
    have c_R0 := R0.cells; have f_R0 := R0.frozens
    have c_R1 := R1.cells; have f_R1 := R1.frozens
    have c_RZ := RZ.cells; have f_RZ := RZ.frozens
    go_wp2_with fail
    clear c_R0 f_R0 c_R1 f_R1 c_RZ f_RZ
    refine (hV.out _).mono ?_
    rintro e w2 ⟨rfl, hb⟩
    have hs_w2 := hb.size
    replace R0 := R0.below hb
    replace R1 := R1.below hb
    replace RZ := RZ.below hb
    replace hB := tr hB hb (Nat.le_refl _)
    clear hb
    have c_R0 := R0.cells; have f_R0 := R0.frozens
    have c_R1 := R1.cells; have f_R1 := R1.frozens
    have c_RZ := RZ.cells; have f_RZ := RZ.frozens
    go_wp2_with fail
    refine bodyPost_ret (v := .tuple #[.agg #[.string x0.durable, .string x0.pending, .int .i64 x0.count], .int .i64 1]) ?_ rfl ?_
    · simp [results, Tryd.results28, go_sem, c_RZ, f_RZ]
    · refine hP.out _ ?_
      repeat refine Below.setCell ?_ (by simp <;> omega) _
      exact hB
  · have hc := valid_count hv
    rw [hv] at hV
    cases hg : goodRec x1.command x1.reply
    · have hP : ∀ w', Below w.heap.size w w' → PS_AppendRecord (resAppendRecord x0 x1) w (.returned (.tuple #[.agg #[.string x0.durable, .string x0.pending, .int .i64 x0.count], .int .i64 1])) w' := fun w' hB => by
        unfold resAppendRecord; rw [hv, hg]; simp only [Bool.not_true, Bool.not_false, Bool.or_true, if_true]; exact ⟨_, [], rfl, isLog _ _ _ _ (by unfold maxLen; omega) (by unfold maxLen; omega), hB⟩
      rw [hg] at hG; replace hV := Lib.hid hV; replace hG := Lib.hid hG; replace hP := Lib.hid hP; clear hv hg
      go_enter Tryd.func28, Tryd.ntmps28
      go_wp2_with fail
      have al : Below w.heap.size w (((w.alloc (.cells #[.string x0.durable, .string x0.pending, .int .i64 x0.count] 31)).alloc (.cells #[.string x1.command, .string x1.reply] 27)).alloc (.cells #[.string ⟨#[]⟩, .string ⟨#[]⟩, .int .i64 0] 31)) := by
        repeat refine Below.alloc ?_ (by simp <;> omega) _
        exact Below.refl _ _
      have n_R0 : Row (((w.alloc (.cells #[.string x0.durable, .string x0.pending, .int .i64 x0.count] 31)).alloc (.cells #[.string x1.command, .string x1.reply] 27)).alloc (.cells #[.string ⟨#[]⟩, .string ⟨#[]⟩, .int .i64 0] 31)) (w.heap.size) 31 [.string x0.durable, .string x0.pending, .int .i64 x0.count] := by simp [row_alloc] <;> omega
      have n_R1 : Row (((w.alloc (.cells #[.string x0.durable, .string x0.pending, .int .i64 x0.count] 31)).alloc (.cells #[.string x1.command, .string x1.reply] 27)).alloc (.cells #[.string ⟨#[]⟩, .string ⟨#[]⟩, .int .i64 0] 31)) (w.heap.size + 1) 27 [.string x1.command, .string x1.reply] := by simp [row_alloc] <;> omega
      have n_RZ : Row (((w.alloc (.cells #[.string x0.durable, .string x0.pending, .int .i64 x0.count] 31)).alloc (.cells #[.string x1.command, .string x1.reply] 27)).alloc (.cells #[.string ⟨#[]⟩, .string ⟨#[]⟩, .int .i64 0] 31)) (w.heap.size + 1 + 1) 31 [.string ⟨#[]⟩, .string ⟨#[]⟩, .int .i64 0] := by simp [row_alloc] <;> omega
      have hs_w3 : w.heap.size + 1 + 1 < (((w.alloc (.cells #[.string x0.durable, .string x0.pending, .int .i64 x0.count] 31)).alloc (.cells #[.string x1.command, .string x1.reply] 27)).alloc (.cells #[.string ⟨#[]⟩, .string ⟨#[]⟩, .int .i64 0] 31)).heap.size := by simp <;> omega
      have hB := al
      generalize (((w.alloc (.cells #[.string x0.durable, .string x0.pending, .int .i64 x0.count] 31)).alloc (.cells #[.string x1.command, .string x1.reply] 27)).alloc (.cells #[.string ⟨#[]⟩, .string ⟨#[]⟩, .int .i64 0] 31)) = w3 at *
      have R0 := n_R0; clear n_R0
      have R1 := n_R1; clear n_R1
      have RZ := n_RZ; clear n_RZ
      clear al
      have c_R0 := R0.cells; have f_R0 := R0.frozens
      have c_R1 := R1.cells; have f_R1 := R1.frozens
      have c_RZ := RZ.cells; have f_RZ := RZ.frozens
      go_wp2_with fail
      clear c_R0 f_R0 c_R1 f_R1 c_RZ f_RZ
      refine (hV.out _).mono ?_
      rintro e w4 ⟨rfl, hb⟩
      have hs_w4 := hb.size
      replace R0 := R0.below hb
      replace R1 := R1.below hb
      replace RZ := RZ.below hb
      replace hB := tr hB hb (Nat.le_refl _)
      clear hb
      have c_R0 := R0.cells; have f_R0 := R0.frozens
      have c_R1 := R1.cells; have f_R1 := R1.frozens
      have c_RZ := RZ.cells; have f_RZ := RZ.frozens
      go_wp2_with fail
      clear c_R0 f_R0 c_R1 f_R1 c_RZ f_RZ
      refine (hG.out _).mono ?_
      rintro e w5 ⟨rfl, hb⟩
      have hs_w5 := hb.size
      replace R0 := R0.below hb
      replace R1 := R1.below hb
      replace RZ := RZ.below hb
      replace hB := tr hB hb (Nat.le_refl _)
      clear hb
      have c_R0 := R0.cells; have f_R0 := R0.frozens
      have c_R1 := R1.cells; have f_R1 := R1.frozens
      have c_RZ := RZ.cells; have f_RZ := RZ.frozens
      go_wp2_with fail
      refine bodyPost_ret (v := .tuple #[.agg #[.string x0.durable, .string x0.pending, .int .i64 x0.count], .int .i64 1]) ?_ rfl ?_
      · simp [results, Tryd.results28, go_sem, c_RZ, f_RZ]
      · refine hP.out _ ?_
        repeat refine Below.setCell ?_ (by simp <;> omega) _
        exact hB
    · by_cases hn : x0.count = 60
      · have hP : ∀ w', Below w.heap.size w w' → PS_AppendRecord (resAppendRecord x0 x1) w (.returned (.tuple #[.agg #[.string x0.durable, .string x0.pending, .int .i64 x0.count], .int .i64 2])) w' := fun w' hB => by
          unfold resAppendRecord; rw [hv, hg]; simp only [Bool.not_true, Bool.or_self, Bool.false_eq_true, if_false]; rw [if_pos hn]; exact ⟨_, [], rfl, isLog _ _ _ _ (by unfold maxLen; omega) (by unfold maxLen; omega), hB⟩
        rw [hg] at hG; replace hV := Lib.hid hV; replace hG := Lib.hid hG; replace hP := Lib.hid hP; clear hv hg
        have hn2 : (x0.count == 60) = true := by simpa using hn
        clear hn
        go_enter Tryd.func28, Tryd.ntmps28
        go_wp2_with fail
        have al : Below w.heap.size w (((w.alloc (.cells #[.string x0.durable, .string x0.pending, .int .i64 x0.count] 31)).alloc (.cells #[.string x1.command, .string x1.reply] 27)).alloc (.cells #[.string ⟨#[]⟩, .string ⟨#[]⟩, .int .i64 0] 31)) := by
          repeat refine Below.alloc ?_ (by simp <;> omega) _
          exact Below.refl _ _
        have n_R0 : Row (((w.alloc (.cells #[.string x0.durable, .string x0.pending, .int .i64 x0.count] 31)).alloc (.cells #[.string x1.command, .string x1.reply] 27)).alloc (.cells #[.string ⟨#[]⟩, .string ⟨#[]⟩, .int .i64 0] 31)) (w.heap.size) 31 [.string x0.durable, .string x0.pending, .int .i64 x0.count] := by simp [row_alloc] <;> omega
        have n_R1 : Row (((w.alloc (.cells #[.string x0.durable, .string x0.pending, .int .i64 x0.count] 31)).alloc (.cells #[.string x1.command, .string x1.reply] 27)).alloc (.cells #[.string ⟨#[]⟩, .string ⟨#[]⟩, .int .i64 0] 31)) (w.heap.size + 1) 27 [.string x1.command, .string x1.reply] := by simp [row_alloc] <;> omega
        have n_RZ : Row (((w.alloc (.cells #[.string x0.durable, .string x0.pending, .int .i64 x0.count] 31)).alloc (.cells #[.string x1.command, .string x1.reply] 27)).alloc (.cells #[.string ⟨#[]⟩, .string ⟨#[]⟩, .int .i64 0] 31)) (w.heap.size + 1 + 1) 31 [.string ⟨#[]⟩, .string ⟨#[]⟩, .int .i64 0] := by simp [row_alloc] <;> omega
        have hs_w6 : w.heap.size + 1 + 1 < (((w.alloc (.cells #[.string x0.durable, .string x0.pending, .int .i64 x0.count] 31)).alloc (.cells #[.string x1.command, .string x1.reply] 27)).alloc (.cells #[.string ⟨#[]⟩, .string ⟨#[]⟩, .int .i64 0] 31)).heap.size := by simp <;> omega
        have hB := al
        generalize (((w.alloc (.cells #[.string x0.durable, .string x0.pending, .int .i64 x0.count] 31)).alloc (.cells #[.string x1.command, .string x1.reply] 27)).alloc (.cells #[.string ⟨#[]⟩, .string ⟨#[]⟩, .int .i64 0] 31)) = w6 at *
        have R0 := n_R0; clear n_R0
        have R1 := n_R1; clear n_R1
        have RZ := n_RZ; clear n_RZ
        clear al
        have c_R0 := R0.cells; have f_R0 := R0.frozens
        have c_R1 := R1.cells; have f_R1 := R1.frozens
        have c_RZ := RZ.cells; have f_RZ := RZ.frozens
        go_wp2_with fail
        clear c_R0 f_R0 c_R1 f_R1 c_RZ f_RZ
        refine (hV.out _).mono ?_
        rintro e w7 ⟨rfl, hb⟩
        have hs_w7 := hb.size
        replace R0 := R0.below hb
        replace R1 := R1.below hb
        replace RZ := RZ.below hb
        replace hB := tr hB hb (Nat.le_refl _)
        clear hb
        have c_R0 := R0.cells; have f_R0 := R0.frozens
        have c_R1 := R1.cells; have f_R1 := R1.frozens
        have c_RZ := RZ.cells; have f_RZ := RZ.frozens
        go_wp2_with fail
        clear c_R0 f_R0 c_R1 f_R1 c_RZ f_RZ
        refine (hG.out _).mono ?_
        rintro e w8 ⟨rfl, hb⟩
        have hs_w8 := hb.size
        replace R0 := R0.below hb
        replace R1 := R1.below hb
        replace RZ := RZ.below hb
        replace hB := tr hB hb (Nat.le_refl _)
        clear hb
        have c_R0 := R0.cells; have f_R0 := R0.frozens
        have c_R1 := R1.cells; have f_R1 := R1.frozens
        have c_RZ := RZ.cells; have f_RZ := RZ.frozens
        go_wp2_with fail
        refine bodyPost_ret (v := .tuple #[.agg #[.string x0.durable, .string x0.pending, .int .i64 x0.count], .int .i64 2]) ?_ rfl ?_
        · simp [results, Tryd.results28, go_sem, c_RZ, f_RZ]
        · refine hP.out _ ?_
          repeat refine Below.setCell ?_ (by simp <;> omega) _
          exact hB
      · have hl := line_size (k := x0.count.toNat) (by omega) hg
        have hk9 : x0.count.toNat ≤ 59 := by omega
        have hP : ∀ w', Below w.heap.size w w' → PS_AppendRecord (resAppendRecord x0 x1) w (.returned (.tuple #[.agg #[.string x0.durable, .string (x0.pending ++ bs (lineL x0.count.toNat x1.command.data.toList x1.reply.data.toList)), .int .i64 (x0.count + 1)], .int .i64 0])) w' := fun w' hB => by
          unfold resAppendRecord; rw [hv, hg]; simp only [Bool.not_true, Bool.or_self, Bool.false_eq_true, if_false]; rw [if_neg hn]; exact ⟨_, [], rfl, isLog _ _ _ _ (by unfold maxLen; omega) (by unfold maxLen; simp only [ByteArray.size_append]; omega), hB⟩
        have hL := fun w => l27Line_c x0.count.toNat x1.command x1.reply w hk9 (goodL_good (by rw [← goodRec_L]; exact hg))
        rw [show ((x0.count.toNat : Nat) : Int) = x0.count from by omega] at hL
        have hn2 : (x0.count == 60) = false := by simpa using hn
        have hn3 : x0.count ≤ 59 := by omega
        rw [hg] at hG; replace hV := Lib.hid hV; replace hG := Lib.hid hG; replace hP := Lib.hid hP; replace hL := Lib.hid hL; clear hv hg hn
        generalize bs (lineL x0.count.toNat x1.command.data.toList x1.reply.data.toList) = ln at *
        have hwc := Lib.hid (show IntKind.i64.wrap (x0.count + 1) = x0.count + 1 from by rw [IntKind.wrap_i64]; omega)
        go_enter Tryd.func28, Tryd.ntmps28
        go_wp2_with fail
        have al : Below w.heap.size w (((w.alloc (.cells #[.string x0.durable, .string x0.pending, .int .i64 x0.count] 31)).alloc (.cells #[.string x1.command, .string x1.reply] 27)).alloc (.cells #[.string ⟨#[]⟩, .string ⟨#[]⟩, .int .i64 0] 31)) := by
          repeat refine Below.alloc ?_ (by simp <;> omega) _
          exact Below.refl _ _
        have n_R0 : Row (((w.alloc (.cells #[.string x0.durable, .string x0.pending, .int .i64 x0.count] 31)).alloc (.cells #[.string x1.command, .string x1.reply] 27)).alloc (.cells #[.string ⟨#[]⟩, .string ⟨#[]⟩, .int .i64 0] 31)) (w.heap.size) 31 [.string x0.durable, .string x0.pending, .int .i64 x0.count] := by simp [row_alloc] <;> omega
        have n_R1 : Row (((w.alloc (.cells #[.string x0.durable, .string x0.pending, .int .i64 x0.count] 31)).alloc (.cells #[.string x1.command, .string x1.reply] 27)).alloc (.cells #[.string ⟨#[]⟩, .string ⟨#[]⟩, .int .i64 0] 31)) (w.heap.size + 1) 27 [.string x1.command, .string x1.reply] := by simp [row_alloc] <;> omega
        have n_RZ : Row (((w.alloc (.cells #[.string x0.durable, .string x0.pending, .int .i64 x0.count] 31)).alloc (.cells #[.string x1.command, .string x1.reply] 27)).alloc (.cells #[.string ⟨#[]⟩, .string ⟨#[]⟩, .int .i64 0] 31)) (w.heap.size + 1 + 1) 31 [.string ⟨#[]⟩, .string ⟨#[]⟩, .int .i64 0] := by simp [row_alloc] <;> omega
        have hs_w9 : w.heap.size + 1 + 1 < (((w.alloc (.cells #[.string x0.durable, .string x0.pending, .int .i64 x0.count] 31)).alloc (.cells #[.string x1.command, .string x1.reply] 27)).alloc (.cells #[.string ⟨#[]⟩, .string ⟨#[]⟩, .int .i64 0] 31)).heap.size := by simp <;> omega
        have hB := al
        generalize (((w.alloc (.cells #[.string x0.durable, .string x0.pending, .int .i64 x0.count] 31)).alloc (.cells #[.string x1.command, .string x1.reply] 27)).alloc (.cells #[.string ⟨#[]⟩, .string ⟨#[]⟩, .int .i64 0] 31)) = w9 at *
        have R0 := n_R0; clear n_R0
        have R1 := n_R1; clear n_R1
        have RZ := n_RZ; clear n_RZ
        clear al
        have c_R0 := R0.cells; have f_R0 := R0.frozens
        have c_R1 := R1.cells; have f_R1 := R1.frozens
        have c_RZ := RZ.cells; have f_RZ := RZ.frozens
        go_wp2_with fail
        clear c_R0 f_R0 c_R1 f_R1 c_RZ f_RZ
        refine (hV.out _).mono ?_
        rintro e w10 ⟨rfl, hb⟩
        have hs_w10 := hb.size
        replace R0 := R0.below hb
        replace R1 := R1.below hb
        replace RZ := RZ.below hb
        replace hB := tr hB hb (Nat.le_refl _)
        clear hb
        have c_R0 := R0.cells; have f_R0 := R0.frozens
        have c_R1 := R1.cells; have f_R1 := R1.frozens
        have c_RZ := RZ.cells; have f_RZ := RZ.frozens
        go_wp2_with fail
        clear c_R0 f_R0 c_R1 f_R1 c_RZ f_RZ
        refine (hG.out _).mono ?_
        rintro e w11 ⟨rfl, hb⟩
        have hs_w11 := hb.size
        replace R0 := R0.below hb
        replace R1 := R1.below hb
        replace RZ := RZ.below hb
        replace hB := tr hB hb (Nat.le_refl _)
        clear hb
        have c_R0 := R0.cells; have f_R0 := R0.frozens
        have c_R1 := R1.cells; have f_R1 := R1.frozens
        have c_RZ := RZ.cells; have f_RZ := RZ.frozens
        go_wp2_with fail
        clear c_R0 f_R0 c_R1 f_R1 c_RZ f_RZ
        rename_i K0 hK0
        refine AnyX.start (S := (fun w' => w'.cell? ⟨w.heap.size, 0, none⟩ = some (.string x0.durable) ∧ w'.cell? ⟨w.heap.size, 1, none⟩ = some (.string x0.pending) ∧ w'.cell? ⟨w.heap.size, 2, none⟩ = some (.int .i64 x0.count) ∧ w'.cell? ⟨w.heap.size + 1, 0, none⟩ = some (.string x1.command) ∧ w'.cell? ⟨w.heap.size + 1, 1, none⟩ = some (.string x1.reply))) (X := (fun i => i == 8)) (by kernel_rfl) ?_
        have al : Below w11.heap.size w11 w11.drew := belowDrewN (Below.refl _ _) 1
        have hs_w12 := al.size
        replace R0 := R0.below al
        replace R1 := R1.below al
        replace RZ := RZ.below al
        replace hB := tr hB al (Nat.le_refl _)
        generalize w11.drew = w12 at *
        clear al
        have hS : (fun w' => w'.cell? ⟨w.heap.size, 0, none⟩ = some (.string x0.durable) ∧ w'.cell? ⟨w.heap.size, 1, none⟩ = some (.string x0.pending) ∧ w'.cell? ⟨w.heap.size, 2, none⟩ = some (.int .i64 x0.count) ∧ w'.cell? ⟨w.heap.size + 1, 0, none⟩ = some (.string x1.command) ∧ w'.cell? ⟨w.heap.size + 1, 1, none⟩ = some (.string x1.reply)) w12 := ⟨R0.cells 0, R0.cells 1, R0.cells 2, R1.cells 0, R1.cells 1⟩
        refine AnyX.take (i := 0) (oi := _) (v := ?_) (by rw [List.getElem?_toArray]; rfl) (by kernel_rfl) (by kernel_rfl) (by kernel_rfl) (by kernel_rfl) (by kernel_rfl) (by exact fun _ _ _ h => h) (Or.inl ⟨by rfl, ?_⟩) hS ?_
        rotate_left
        · (intro wS hSw; (try dsimp only at hSw); go_simp; try with_reducible rfl)
        try simp only [Act.put, List.setIfInBounds_toArray, List.set_cons_zero, List.set_cons_succ]
        refine AnyX.take (i := 1) (oi := _) (v := ?_) (by rw [List.getElem?_toArray]; rfl) (by kernel_rfl) (by kernel_rfl) (by kernel_rfl) (by kernel_rfl) (by kernel_rfl) (by exact fun _ _ _ h => h) (Or.inl ⟨by rfl, ?_⟩) hS ?_
        rotate_left
        · (intro wS hSw; (try dsimp only at hSw); go_simp; try with_reducible rfl)
        try simp only [Act.put, List.setIfInBounds_toArray, List.set_cons_zero, List.set_cons_succ]
        refine AnyX.take (i := 2) (oi := _) (v := ?_) (by rw [List.getElem?_toArray]; rfl) (by kernel_rfl) (by kernel_rfl) (by kernel_rfl) (by kernel_rfl) (by kernel_rfl) (by exact fun _ _ _ h => h) (Or.inl ⟨by rfl, ?_⟩) hS ?_
        rotate_left
        · (intro wS hSw; (try dsimp only at hSw); go_simp; try with_reducible rfl)
        try simp only [Act.put, List.setIfInBounds_toArray, List.set_cons_zero, List.set_cons_succ]
        refine AnyX.take (i := 3) (oi := _) (v := ?_) (by rw [List.getElem?_toArray]; rfl) (by kernel_rfl) (by kernel_rfl) (by kernel_rfl) (by kernel_rfl) (by kernel_rfl) (by exact fun _ _ _ h => h) (Or.inl ⟨by rfl, ?_⟩) hS ?_
        rotate_left
        · (intro wS hSw; (try dsimp only at hSw); go_simp; try with_reducible rfl)
        try simp only [Act.put, List.setIfInBounds_toArray, List.set_cons_zero, List.set_cons_succ]
        refine AnyX.take (i := 4) (oi := _) (v := ?_) (by rw [List.getElem?_toArray]; rfl) (by kernel_rfl) (by kernel_rfl) (by kernel_rfl) (by kernel_rfl) (by kernel_rfl) (by exact fun _ _ _ h => h) (Or.inl ⟨by rfl, ?_⟩) hS ?_
        rotate_left
        · (intro wS hSw; (try dsimp only at hSw); go_simp; try with_reducible rfl)
        try simp only [Act.put, List.setIfInBounds_toArray, List.set_cons_zero, List.set_cons_succ]
        refine AnyX.only (i := 5) (o := _) (by kernel_rfl) (by rw [List.getElem?_toArray]; rfl) (fun K hK => ?_)
        go_simp
        go_at_call 44
        refine (hL.out _).mono ?_
        rintro e w13 ⟨rfl, hb⟩
        have hs_w13 := hb.size
        replace R0 := R0.below hb
        replace R1 := R1.below hb
        replace RZ := RZ.below hb
        replace hB := tr hB hb (Nat.le_refl _)
        clear hb
        clear hS
        have hS : (fun w' => w'.cell? ⟨w.heap.size, 0, none⟩ = some (.string x0.durable) ∧ w'.cell? ⟨w.heap.size, 1, none⟩ = some (.string x0.pending) ∧ w'.cell? ⟨w.heap.size, 2, none⟩ = some (.int .i64 x0.count) ∧ w'.cell? ⟨w.heap.size + 1, 0, none⟩ = some (.string x1.command) ∧ w'.cell? ⟨w.heap.size + 1, 1, none⟩ = some (.string x1.reply)) w13 := ⟨R0.cells 0, R0.cells 1, R0.cells 2, R1.cells 0, R1.cells 1⟩
        refine hK.out _ _ (fun _ => hS) ?_
        clear hK K
        try simp only [Act.put, List.setIfInBounds_toArray, List.set_cons_zero, List.set_cons_succ]
        refine AnyX.take (i := 6) (oi := _) (v := ?_) (by rw [List.getElem?_toArray]; rfl) (by kernel_rfl) (by kernel_rfl) (by kernel_rfl) (by kernel_rfl) (by kernel_rfl) (by exact fun _ _ _ h => h) (Or.inl ⟨by rfl, ?_⟩) hS ?_
        rotate_left
        · (intro wS hSw; (try dsimp only at hSw); go_simp; rw [if_neg (by omega)]; try with_reducible rfl)
        try simp only [Act.put, List.setIfInBounds_toArray, List.set_cons_zero, List.set_cons_succ]
        refine AnyX.take (i := 7) (oi := _) (v := ?_) (by rw [List.getElem?_toArray]; rfl) (by kernel_rfl) (by kernel_rfl) (by kernel_rfl) (by kernel_rfl) (by kernel_rfl) (by exact fun _ _ _ h => h) (Or.inl ⟨by rfl, ?_⟩) hS ?_
        rotate_left
        · (intro wS hSw; (try dsimp only at hSw); go_simp; try with_reducible rfl)
        try simp only [Act.put, List.setIfInBounds_toArray, List.set_cons_zero, List.set_cons_succ]
        refine AnyX.only (i := 8) (o := _) (by kernel_rfl) (by rw [List.getElem?_toArray]; rfl) (fun K hK => ?_)
        have c_R0 := R0.cells; have f_R0 := R0.frozens
        have c_R1 := R1.cells; have f_R1 := R1.frozens
        have c_RZ := RZ.cells; have f_RZ := RZ.frozens
        go_simp
        clear c_R0 f_R0 c_R1 f_R1 c_RZ f_RZ
        have n_R1 := R1.keep (show (w13.setCell ⟨w.heap.size, 1, none⟩ (.string (x0.pending ++ ln))).heap[_]? = _ from by repeat rw [Below.heap_setCell _ _ _ _ (by simp <;> omega)])
        have n_RZ := RZ.keep (show (w13.setCell ⟨w.heap.size, 1, none⟩ (.string (x0.pending ++ ln))).heap[_]? = _ from by repeat rw [Below.heap_setCell _ _ _ _ (by simp <;> omega)])
        have n_R0 : Row (w13.setCell ⟨w.heap.size, 1, none⟩ (.string (x0.pending ++ ln))) (w.heap.size) 31 [.string x0.durable, .string (x0.pending ++ ln), .int .i64 x0.count] := by simpa using (R0.set 1 (.string (x0.pending ++ ln)))
        have n_hB : Below w.heap.size w (w13.setCell ⟨w.heap.size, 1, none⟩ (.string (x0.pending ++ ln))) := by
          repeat refine Below.setCell ?_ (by simp <;> omega) _
          exact hB
        clear hB R0 R1 RZ
        have hs_w14 : w13.heap.size ≤ (w13.setCell ⟨w.heap.size, 1, none⟩ (.string (x0.pending ++ ln))).heap.size := by simp
        generalize (w13.setCell ⟨w.heap.size, 1, none⟩ (.string (x0.pending ++ ln))) = w14 at *
        have hB := n_hB; clear n_hB
        have R0 := n_R0; clear n_R0
        have R1 := n_R1; clear n_R1
        have RZ := n_RZ; clear n_RZ
        refine hK.out _ _ (fun h => by cases h) ?_
        clear hK K
        try simp only [Act.put, List.setIfInBounds_toArray, List.set_cons_zero, List.set_cons_succ]
        refine AnyX.done (by kernel_rfl) ?_ _
        (try clear hS)
        refine hK0 _ _ ?_
        clear hK0 K0
        have c_R0 := R0.cells; have f_R0 := R0.frozens
        have c_R1 := R1.cells; have f_R1 := R1.frozens
        have c_RZ := RZ.cells; have f_RZ := RZ.frozens
        go_wp2_with fail
        refine bodyPost_ret (v := .tuple #[.agg #[.string x0.durable, .string (x0.pending ++ ln), .int .i64 (x0.count + 1)], .int .i64 0]) ?_ rfl ?_
        · simp [results, Tryd.results28, go_sem, c_RZ, f_RZ, c_R0, f_R0]
        · refine hP.out _ ?_
          repeat refine Below.setCell ?_ (by simp <;> omega) _
          exact hB
set_option maxHeartbeats 3200000 in
set_option maxRecDepth 100000 in
theorem AppendRecord_c (v0 : Value) (x0 : Log) (F0 : List Nat) (v1 : Value) (x1 : LogRecord) (F1 : List Nat) (FT : List Nat) (w : World) (h0 : IsV ELog w v0 x0 F0) (h1 : IsV ELogRecord w v1 x1 F1) (hw0 : wtLog x0 ≤ 1048576) (hw1 : wtLogRecord x1 ≤ 1048576) (hT : IsV ETab w (.agg #[]) () FT) :
    Calls Tryd.prog 29 #[v0, v1] w (PI_AppendRecord (resAppendRecord x0 x1) w) := by
  have hFT := hT.lt
  obtain ⟨_, rfl, rfl, s1, s2, rfl⟩ := h0
  have hw := hw0; unfold wtLog at hw
  unfold maxLen at s1 s2
  obtain ⟨_, rfl, rfl, s3, s4, rfl⟩ := h1
  have hV := fun w hT => IsValidLog_v x0.durable x0.pending x0.count FT w hw hT
  have hG := fun w => IsValidRecord_c x1.command x1.reply w s3 s4
  unfold maxLen at s3 s4
  cases hv : validR x0.durable.data.toList x0.pending.data.toList x0.count
  · have hP : ∀ w', Below w.heap.size w w' → PI_AppendRecord (resAppendRecord x0 x1) w (.returned (.tuple #[.agg #[.string x0.durable, .string x0.pending, .int .i64 x0.count], .int .i64 1])) w' := fun w' hB => by
      unfold resAppendRecord; rw [hv]; simp only [Bool.not_false, Bool.true_or, if_true]; exact ⟨_, [], rfl, isLog _ _ _ _ (by unfold maxLen; omega) (by unfold maxLen; omega), by simp, by simp, hB⟩
    rw [hv] at hV; replace hV := Lib.hid hV; replace hG := Lib.hid hG; replace hP := Lib.hid hP; clear hv
    go_enter Tryd.func29, Tryd.ntmps29
    go_wp2_with fail
    have al : Below w.heap.size w (((w.alloc (.cells #[.string x0.durable, .string x0.pending, .int .i64 x0.count] 31)).alloc (.cells #[.string x1.command, .string x1.reply] 27)).alloc (.cells #[.string ⟨#[]⟩, .string ⟨#[]⟩, .int .i64 0] 31)) := by
      repeat refine Below.alloc ?_ (by simp <;> omega) _
      exact Below.refl _ _
    have n_R0 : Row (((w.alloc (.cells #[.string x0.durable, .string x0.pending, .int .i64 x0.count] 31)).alloc (.cells #[.string x1.command, .string x1.reply] 27)).alloc (.cells #[.string ⟨#[]⟩, .string ⟨#[]⟩, .int .i64 0] 31)) (w.heap.size) 31 [.string x0.durable, .string x0.pending, .int .i64 x0.count] := by simp [row_alloc] <;> omega
    have n_R1 : Row (((w.alloc (.cells #[.string x0.durable, .string x0.pending, .int .i64 x0.count] 31)).alloc (.cells #[.string x1.command, .string x1.reply] 27)).alloc (.cells #[.string ⟨#[]⟩, .string ⟨#[]⟩, .int .i64 0] 31)) (w.heap.size + 1) 27 [.string x1.command, .string x1.reply] := by simp [row_alloc] <;> omega
    have n_RZ : Row (((w.alloc (.cells #[.string x0.durable, .string x0.pending, .int .i64 x0.count] 31)).alloc (.cells #[.string x1.command, .string x1.reply] 27)).alloc (.cells #[.string ⟨#[]⟩, .string ⟨#[]⟩, .int .i64 0] 31)) (w.heap.size + 1 + 1) 31 [.string ⟨#[]⟩, .string ⟨#[]⟩, .int .i64 0] := by simp [row_alloc] <;> omega
    have hs_w1 : w.heap.size + 1 + 1 < (((w.alloc (.cells #[.string x0.durable, .string x0.pending, .int .i64 x0.count] 31)).alloc (.cells #[.string x1.command, .string x1.reply] 27)).alloc (.cells #[.string ⟨#[]⟩, .string ⟨#[]⟩, .int .i64 0] 31)).heap.size := by simp <;> omega
    replace hT := hT.below al
    have hB := al
    generalize (((w.alloc (.cells #[.string x0.durable, .string x0.pending, .int .i64 x0.count] 31)).alloc (.cells #[.string x1.command, .string x1.reply] 27)).alloc (.cells #[.string ⟨#[]⟩, .string ⟨#[]⟩, .int .i64 0] 31)) = w1 at *
    have R0 := n_R0; clear n_R0
    have R1 := n_R1; clear n_R1
    have RZ := n_RZ; clear n_RZ
    clear al
    have c_R0 := R0.cells; have f_R0 := R0.frozens
    have c_R1 := R1.cells; have f_R1 := R1.frozens
    have c_RZ := RZ.cells; have f_RZ := RZ.frozens
    go_wp2_with fail
    clear c_R0 f_R0 c_R1 f_R1 c_RZ f_RZ
    refine (hV.out _ hT).mono ?_
    rintro e w2 ⟨rfl, hb⟩
    have hs_w2 := hb.size
    replace R0 := R0.below hb
    replace R1 := R1.below hb
    replace RZ := RZ.below hb
    replace hT := hT.below hb
    replace hB := tr hB hb (Nat.le_refl _)
    clear hb
    have c_R0 := R0.cells; have f_R0 := R0.frozens
    have c_R1 := R1.cells; have f_R1 := R1.frozens
    have c_RZ := RZ.cells; have f_RZ := RZ.frozens
    go_wp2_with fail
    refine bodyPost_ret (v := .tuple #[.agg #[.string x0.durable, .string x0.pending, .int .i64 x0.count], .int .i64 1]) ?_ rfl ?_
    · simp [results, Tryd.results29, go_sem, c_RZ, f_RZ]
    · refine hP.out _ ?_
      repeat refine Below.setCell ?_ (by simp <;> omega) _
      exact hB
  · have hc := valid_count hv
    rw [hv] at hV
    cases hg : goodRec x1.command x1.reply
    · have hP : ∀ w', Below w.heap.size w w' → PI_AppendRecord (resAppendRecord x0 x1) w (.returned (.tuple #[.agg #[.string x0.durable, .string x0.pending, .int .i64 x0.count], .int .i64 1])) w' := fun w' hB => by
        unfold resAppendRecord; rw [hv, hg]; simp only [Bool.not_true, Bool.not_false, Bool.or_true, if_true]; exact ⟨_, [], rfl, isLog _ _ _ _ (by unfold maxLen; omega) (by unfold maxLen; omega), by simp, by simp, hB⟩
      rw [hg] at hG; replace hV := Lib.hid hV; replace hG := Lib.hid hG; replace hP := Lib.hid hP; clear hv hg
      go_enter Tryd.func29, Tryd.ntmps29
      go_wp2_with fail
      have al : Below w.heap.size w (((w.alloc (.cells #[.string x0.durable, .string x0.pending, .int .i64 x0.count] 31)).alloc (.cells #[.string x1.command, .string x1.reply] 27)).alloc (.cells #[.string ⟨#[]⟩, .string ⟨#[]⟩, .int .i64 0] 31)) := by
        repeat refine Below.alloc ?_ (by simp <;> omega) _
        exact Below.refl _ _
      have n_R0 : Row (((w.alloc (.cells #[.string x0.durable, .string x0.pending, .int .i64 x0.count] 31)).alloc (.cells #[.string x1.command, .string x1.reply] 27)).alloc (.cells #[.string ⟨#[]⟩, .string ⟨#[]⟩, .int .i64 0] 31)) (w.heap.size) 31 [.string x0.durable, .string x0.pending, .int .i64 x0.count] := by simp [row_alloc] <;> omega
      have n_R1 : Row (((w.alloc (.cells #[.string x0.durable, .string x0.pending, .int .i64 x0.count] 31)).alloc (.cells #[.string x1.command, .string x1.reply] 27)).alloc (.cells #[.string ⟨#[]⟩, .string ⟨#[]⟩, .int .i64 0] 31)) (w.heap.size + 1) 27 [.string x1.command, .string x1.reply] := by simp [row_alloc] <;> omega
      have n_RZ : Row (((w.alloc (.cells #[.string x0.durable, .string x0.pending, .int .i64 x0.count] 31)).alloc (.cells #[.string x1.command, .string x1.reply] 27)).alloc (.cells #[.string ⟨#[]⟩, .string ⟨#[]⟩, .int .i64 0] 31)) (w.heap.size + 1 + 1) 31 [.string ⟨#[]⟩, .string ⟨#[]⟩, .int .i64 0] := by simp [row_alloc] <;> omega
      have hs_w3 : w.heap.size + 1 + 1 < (((w.alloc (.cells #[.string x0.durable, .string x0.pending, .int .i64 x0.count] 31)).alloc (.cells #[.string x1.command, .string x1.reply] 27)).alloc (.cells #[.string ⟨#[]⟩, .string ⟨#[]⟩, .int .i64 0] 31)).heap.size := by simp <;> omega
      replace hT := hT.below al
      have hB := al
      generalize (((w.alloc (.cells #[.string x0.durable, .string x0.pending, .int .i64 x0.count] 31)).alloc (.cells #[.string x1.command, .string x1.reply] 27)).alloc (.cells #[.string ⟨#[]⟩, .string ⟨#[]⟩, .int .i64 0] 31)) = w3 at *
      have R0 := n_R0; clear n_R0
      have R1 := n_R1; clear n_R1
      have RZ := n_RZ; clear n_RZ
      clear al
      have c_R0 := R0.cells; have f_R0 := R0.frozens
      have c_R1 := R1.cells; have f_R1 := R1.frozens
      have c_RZ := RZ.cells; have f_RZ := RZ.frozens
      go_wp2_with fail
      clear c_R0 f_R0 c_R1 f_R1 c_RZ f_RZ
      refine (hV.out _ hT).mono ?_
      rintro e w4 ⟨rfl, hb⟩
      have hs_w4 := hb.size
      replace R0 := R0.below hb
      replace R1 := R1.below hb
      replace RZ := RZ.below hb
      replace hT := hT.below hb
      replace hB := tr hB hb (Nat.le_refl _)
      clear hb
      have c_R0 := R0.cells; have f_R0 := R0.frozens
      have c_R1 := R1.cells; have f_R1 := R1.frozens
      have c_RZ := RZ.cells; have f_RZ := RZ.frozens
      go_wp2_with fail
      clear c_R0 f_R0 c_R1 f_R1 c_RZ f_RZ
      refine (hG.out _).mono ?_
      rintro e w5 ⟨rfl, hb⟩
      have hs_w5 := hb.size
      replace R0 := R0.below hb
      replace R1 := R1.below hb
      replace RZ := RZ.below hb
      replace hT := hT.below hb
      replace hB := tr hB hb (Nat.le_refl _)
      clear hb
      have c_R0 := R0.cells; have f_R0 := R0.frozens
      have c_R1 := R1.cells; have f_R1 := R1.frozens
      have c_RZ := RZ.cells; have f_RZ := RZ.frozens
      go_wp2_with fail
      refine bodyPost_ret (v := .tuple #[.agg #[.string x0.durable, .string x0.pending, .int .i64 x0.count], .int .i64 1]) ?_ rfl ?_
      · simp [results, Tryd.results29, go_sem, c_RZ, f_RZ]
      · refine hP.out _ ?_
        repeat refine Below.setCell ?_ (by simp <;> omega) _
        exact hB
    · by_cases hn : x0.count = 60
      · have hP : ∀ w', Below w.heap.size w w' → PI_AppendRecord (resAppendRecord x0 x1) w (.returned (.tuple #[.agg #[.string x0.durable, .string x0.pending, .int .i64 x0.count], .int .i64 2])) w' := fun w' hB => by
          unfold resAppendRecord; rw [hv, hg]; simp only [Bool.not_true, Bool.or_self, Bool.false_eq_true, if_false]; rw [if_pos hn]; exact ⟨_, [], rfl, isLog _ _ _ _ (by unfold maxLen; omega) (by unfold maxLen; omega), by simp, by simp, hB⟩
        rw [hg] at hG; replace hV := Lib.hid hV; replace hG := Lib.hid hG; replace hP := Lib.hid hP; clear hv hg
        have hn2 : (x0.count == 60) = true := by simpa using hn
        clear hn
        go_enter Tryd.func29, Tryd.ntmps29
        go_wp2_with fail
        have al : Below w.heap.size w (((w.alloc (.cells #[.string x0.durable, .string x0.pending, .int .i64 x0.count] 31)).alloc (.cells #[.string x1.command, .string x1.reply] 27)).alloc (.cells #[.string ⟨#[]⟩, .string ⟨#[]⟩, .int .i64 0] 31)) := by
          repeat refine Below.alloc ?_ (by simp <;> omega) _
          exact Below.refl _ _
        have n_R0 : Row (((w.alloc (.cells #[.string x0.durable, .string x0.pending, .int .i64 x0.count] 31)).alloc (.cells #[.string x1.command, .string x1.reply] 27)).alloc (.cells #[.string ⟨#[]⟩, .string ⟨#[]⟩, .int .i64 0] 31)) (w.heap.size) 31 [.string x0.durable, .string x0.pending, .int .i64 x0.count] := by simp [row_alloc] <;> omega
        have n_R1 : Row (((w.alloc (.cells #[.string x0.durable, .string x0.pending, .int .i64 x0.count] 31)).alloc (.cells #[.string x1.command, .string x1.reply] 27)).alloc (.cells #[.string ⟨#[]⟩, .string ⟨#[]⟩, .int .i64 0] 31)) (w.heap.size + 1) 27 [.string x1.command, .string x1.reply] := by simp [row_alloc] <;> omega
        have n_RZ : Row (((w.alloc (.cells #[.string x0.durable, .string x0.pending, .int .i64 x0.count] 31)).alloc (.cells #[.string x1.command, .string x1.reply] 27)).alloc (.cells #[.string ⟨#[]⟩, .string ⟨#[]⟩, .int .i64 0] 31)) (w.heap.size + 1 + 1) 31 [.string ⟨#[]⟩, .string ⟨#[]⟩, .int .i64 0] := by simp [row_alloc] <;> omega
        have hs_w6 : w.heap.size + 1 + 1 < (((w.alloc (.cells #[.string x0.durable, .string x0.pending, .int .i64 x0.count] 31)).alloc (.cells #[.string x1.command, .string x1.reply] 27)).alloc (.cells #[.string ⟨#[]⟩, .string ⟨#[]⟩, .int .i64 0] 31)).heap.size := by simp <;> omega
        replace hT := hT.below al
        have hB := al
        generalize (((w.alloc (.cells #[.string x0.durable, .string x0.pending, .int .i64 x0.count] 31)).alloc (.cells #[.string x1.command, .string x1.reply] 27)).alloc (.cells #[.string ⟨#[]⟩, .string ⟨#[]⟩, .int .i64 0] 31)) = w6 at *
        have R0 := n_R0; clear n_R0
        have R1 := n_R1; clear n_R1
        have RZ := n_RZ; clear n_RZ
        clear al
        have c_R0 := R0.cells; have f_R0 := R0.frozens
        have c_R1 := R1.cells; have f_R1 := R1.frozens
        have c_RZ := RZ.cells; have f_RZ := RZ.frozens
        go_wp2_with fail
        clear c_R0 f_R0 c_R1 f_R1 c_RZ f_RZ
        refine (hV.out _ hT).mono ?_
        rintro e w7 ⟨rfl, hb⟩
        have hs_w7 := hb.size
        replace R0 := R0.below hb
        replace R1 := R1.below hb
        replace RZ := RZ.below hb
        replace hT := hT.below hb
        replace hB := tr hB hb (Nat.le_refl _)
        clear hb
        have c_R0 := R0.cells; have f_R0 := R0.frozens
        have c_R1 := R1.cells; have f_R1 := R1.frozens
        have c_RZ := RZ.cells; have f_RZ := RZ.frozens
        go_wp2_with fail
        clear c_R0 f_R0 c_R1 f_R1 c_RZ f_RZ
        refine (hG.out _).mono ?_
        rintro e w8 ⟨rfl, hb⟩
        have hs_w8 := hb.size
        replace R0 := R0.below hb
        replace R1 := R1.below hb
        replace RZ := RZ.below hb
        replace hT := hT.below hb
        replace hB := tr hB hb (Nat.le_refl _)
        clear hb
        have c_R0 := R0.cells; have f_R0 := R0.frozens
        have c_R1 := R1.cells; have f_R1 := R1.frozens
        have c_RZ := RZ.cells; have f_RZ := RZ.frozens
        go_wp2_with fail
        refine bodyPost_ret (v := .tuple #[.agg #[.string x0.durable, .string x0.pending, .int .i64 x0.count], .int .i64 2]) ?_ rfl ?_
        · simp [results, Tryd.results29, go_sem, c_RZ, f_RZ]
        · refine hP.out _ ?_
          repeat refine Below.setCell ?_ (by simp <;> omega) _
          exact hB
      · have hl := line_size (k := x0.count.toNat) (by omega) hg
        have hk9 : x0.count.toNat ≤ 59 := by omega
        have hP : ∀ w', Below w.heap.size w w' → PI_AppendRecord (resAppendRecord x0 x1) w (.returned (.tuple #[.agg #[.string x0.durable, .string (x0.pending ++ bs (lineL x0.count.toNat x1.command.data.toList x1.reply.data.toList)), .int .i64 (x0.count + 1)], .int .i64 0])) w' := fun w' hB => by
          unfold resAppendRecord; rw [hv, hg]; simp only [Bool.not_true, Bool.or_self, Bool.false_eq_true, if_false]; rw [if_neg hn]; exact ⟨_, [], rfl, isLog _ _ _ _ (by unfold maxLen; omega) (by unfold maxLen; simp only [ByteArray.size_append]; omega), by simp, by simp, hB⟩
        have hL := fun w hT => encodeRecord_c x0.count.toNat x1.command x1.reply FT w hk9 (goodL_good (by rw [← goodRec_L]; exact hg)) hT
        rw [show ((x0.count.toNat : Nat) : Int) = x0.count from by omega] at hL
        have hn2 : (x0.count == 60) = false := by simpa using hn
        have hn3 : x0.count ≤ 59 := by omega
        rw [hg] at hG; replace hV := Lib.hid hV; replace hG := Lib.hid hG; replace hP := Lib.hid hP; replace hL := Lib.hid hL; clear hv hg hn
        generalize bs (lineL x0.count.toNat x1.command.data.toList x1.reply.data.toList) = ln at *
        have hwc := Lib.hid (show IntKind.i64.wrap (x0.count + 1) = x0.count + 1 from by rw [IntKind.wrap_i64]; omega)
        go_enter Tryd.func29, Tryd.ntmps29
        go_wp2_with fail
        have al : Below w.heap.size w (((w.alloc (.cells #[.string x0.durable, .string x0.pending, .int .i64 x0.count] 31)).alloc (.cells #[.string x1.command, .string x1.reply] 27)).alloc (.cells #[.string ⟨#[]⟩, .string ⟨#[]⟩, .int .i64 0] 31)) := by
          repeat refine Below.alloc ?_ (by simp <;> omega) _
          exact Below.refl _ _
        have n_R0 : Row (((w.alloc (.cells #[.string x0.durable, .string x0.pending, .int .i64 x0.count] 31)).alloc (.cells #[.string x1.command, .string x1.reply] 27)).alloc (.cells #[.string ⟨#[]⟩, .string ⟨#[]⟩, .int .i64 0] 31)) (w.heap.size) 31 [.string x0.durable, .string x0.pending, .int .i64 x0.count] := by simp [row_alloc] <;> omega
        have n_R1 : Row (((w.alloc (.cells #[.string x0.durable, .string x0.pending, .int .i64 x0.count] 31)).alloc (.cells #[.string x1.command, .string x1.reply] 27)).alloc (.cells #[.string ⟨#[]⟩, .string ⟨#[]⟩, .int .i64 0] 31)) (w.heap.size + 1) 27 [.string x1.command, .string x1.reply] := by simp [row_alloc] <;> omega
        have n_RZ : Row (((w.alloc (.cells #[.string x0.durable, .string x0.pending, .int .i64 x0.count] 31)).alloc (.cells #[.string x1.command, .string x1.reply] 27)).alloc (.cells #[.string ⟨#[]⟩, .string ⟨#[]⟩, .int .i64 0] 31)) (w.heap.size + 1 + 1) 31 [.string ⟨#[]⟩, .string ⟨#[]⟩, .int .i64 0] := by simp [row_alloc] <;> omega
        have hs_w9 : w.heap.size + 1 + 1 < (((w.alloc (.cells #[.string x0.durable, .string x0.pending, .int .i64 x0.count] 31)).alloc (.cells #[.string x1.command, .string x1.reply] 27)).alloc (.cells #[.string ⟨#[]⟩, .string ⟨#[]⟩, .int .i64 0] 31)).heap.size := by simp <;> omega
        replace hT := hT.below al
        have hB := al
        generalize (((w.alloc (.cells #[.string x0.durable, .string x0.pending, .int .i64 x0.count] 31)).alloc (.cells #[.string x1.command, .string x1.reply] 27)).alloc (.cells #[.string ⟨#[]⟩, .string ⟨#[]⟩, .int .i64 0] 31)) = w9 at *
        have R0 := n_R0; clear n_R0
        have R1 := n_R1; clear n_R1
        have RZ := n_RZ; clear n_RZ
        clear al
        have c_R0 := R0.cells; have f_R0 := R0.frozens
        have c_R1 := R1.cells; have f_R1 := R1.frozens
        have c_RZ := RZ.cells; have f_RZ := RZ.frozens
        go_wp2_with fail
        clear c_R0 f_R0 c_R1 f_R1 c_RZ f_RZ
        refine (hV.out _ hT).mono ?_
        rintro e w10 ⟨rfl, hb⟩
        have hs_w10 := hb.size
        replace R0 := R0.below hb
        replace R1 := R1.below hb
        replace RZ := RZ.below hb
        replace hT := hT.below hb
        replace hB := tr hB hb (Nat.le_refl _)
        clear hb
        have c_R0 := R0.cells; have f_R0 := R0.frozens
        have c_R1 := R1.cells; have f_R1 := R1.frozens
        have c_RZ := RZ.cells; have f_RZ := RZ.frozens
        go_wp2_with fail
        clear c_R0 f_R0 c_R1 f_R1 c_RZ f_RZ
        refine (hG.out _).mono ?_
        rintro e w11 ⟨rfl, hb⟩
        have hs_w11 := hb.size
        replace R0 := R0.below hb
        replace R1 := R1.below hb
        replace RZ := RZ.below hb
        replace hT := hT.below hb
        replace hB := tr hB hb (Nat.le_refl _)
        clear hb
        have c_R0 := R0.cells; have f_R0 := R0.frozens
        have c_R1 := R1.cells; have f_R1 := R1.frozens
        have c_RZ := RZ.cells; have f_RZ := RZ.frozens
        go_wp2_with fail
        clear c_R0 f_R0 c_R1 f_R1 c_RZ f_RZ
        rename_i K0 hK0
        refine AnyX.start (S := (fun w' => w'.cell? ⟨w.heap.size, 0, none⟩ = some (.string x0.durable) ∧ w'.cell? ⟨w.heap.size, 1, none⟩ = some (.string x0.pending) ∧ w'.cell? ⟨w.heap.size, 2, none⟩ = some (.int .i64 x0.count) ∧ w'.cell? ⟨w.heap.size + 1, 0, none⟩ = some (.string x1.command) ∧ w'.cell? ⟨w.heap.size + 1, 1, none⟩ = some (.string x1.reply))) (X := (fun _ => false)) (by kernel_rfl) ?_
        have al : Below w11.heap.size w11 w11.drew := belowDrewN (Below.refl _ _) 1
        have hs_w12 := al.size
        replace R0 := R0.below al
        replace R1 := R1.below al
        replace RZ := RZ.below al
        replace hT := hT.below al
        replace hB := tr hB al (Nat.le_refl _)
        generalize w11.drew = w12 at *
        clear al
        have hS : (fun w' => w'.cell? ⟨w.heap.size, 0, none⟩ = some (.string x0.durable) ∧ w'.cell? ⟨w.heap.size, 1, none⟩ = some (.string x0.pending) ∧ w'.cell? ⟨w.heap.size, 2, none⟩ = some (.int .i64 x0.count) ∧ w'.cell? ⟨w.heap.size + 1, 0, none⟩ = some (.string x1.command) ∧ w'.cell? ⟨w.heap.size + 1, 1, none⟩ = some (.string x1.reply)) w12 := ⟨R0.cells 0, R0.cells 1, R0.cells 2, R1.cells 0, R1.cells 1⟩
        refine AnyX.take (i := 0) (oi := _) (v := ?_) (by rw [List.getElem?_toArray]; rfl) (by kernel_rfl) (by kernel_rfl) (by kernel_rfl) (by kernel_rfl) (by kernel_rfl) (by exact fun _ _ _ h => h) (Or.inl ⟨by rfl, ?_⟩) hS ?_
        rotate_left
        · (intro wS hSw; (try dsimp only at hSw); go_simp; try with_reducible rfl)
        try simp only [Act.put, List.setIfInBounds_toArray, List.set_cons_zero, List.set_cons_succ]
        refine AnyX.take (i := 1) (oi := _) (v := ?_) (by rw [List.getElem?_toArray]; rfl) (by kernel_rfl) (by kernel_rfl) (by kernel_rfl) (by kernel_rfl) (by kernel_rfl) (by exact fun _ _ _ h => h) (Or.inl ⟨by rfl, ?_⟩) hS ?_
        rotate_left
        · (intro wS hSw; (try dsimp only at hSw); go_simp; try with_reducible rfl)
        try simp only [Act.put, List.setIfInBounds_toArray, List.set_cons_zero, List.set_cons_succ]
        refine AnyX.take (i := 2) (oi := _) (v := ?_) (by rw [List.getElem?_toArray]; rfl) (by kernel_rfl) (by kernel_rfl) (by kernel_rfl) (by kernel_rfl) (by kernel_rfl) (by exact fun _ _ _ h => h) (Or.inl ⟨by rfl, ?_⟩) hS ?_
        rotate_left
        · (intro wS hSw; (try dsimp only at hSw); go_simp; try with_reducible rfl)
        try simp only [Act.put, List.setIfInBounds_toArray, List.set_cons_zero, List.set_cons_succ]
        refine AnyX.take (i := 3) (oi := _) (v := ?_) (by rw [List.getElem?_toArray]; rfl) (by kernel_rfl) (by kernel_rfl) (by kernel_rfl) (by kernel_rfl) (by kernel_rfl) (by exact fun _ _ _ h => h) (Or.inl ⟨by rfl, ?_⟩) hS ?_
        rotate_left
        · (intro wS hSw; (try dsimp only at hSw); go_simp; try with_reducible rfl)
        try simp only [Act.put, List.setIfInBounds_toArray, List.set_cons_zero, List.set_cons_succ]
        refine AnyX.take (i := 4) (oi := _) (v := ?_) (by rw [List.getElem?_toArray]; rfl) (by kernel_rfl) (by kernel_rfl) (by kernel_rfl) (by kernel_rfl) (by kernel_rfl) (by exact fun _ _ _ h => h) (Or.inl ⟨by rfl, ?_⟩) hS ?_
        rotate_left
        · (intro wS hSw; (try dsimp only at hSw); go_simp; try with_reducible rfl)
        try simp only [Act.put, List.setIfInBounds_toArray, List.set_cons_zero, List.set_cons_succ]
        refine AnyX.take (i := 5) (oi := _) (v := ?_) (by rw [List.getElem?_toArray]; rfl) (by kernel_rfl) (by kernel_rfl) (by kernel_rfl) (by kernel_rfl) (by kernel_rfl) (by exact fun _ _ _ h => h) (Or.inl ⟨by rfl, ?_⟩) hS ?_
        rotate_left
        · (intro wS hSw; (try dsimp only at hSw); go_simp; try with_reducible rfl)
        try simp only [Act.put, List.setIfInBounds_toArray, List.set_cons_zero, List.set_cons_succ]
        refine AnyX.take (i := 6) (oi := _) (v := ?_) (by rw [List.getElem?_toArray]; rfl) (by kernel_rfl) (by kernel_rfl) (by kernel_rfl) (by kernel_rfl) (by kernel_rfl) (by exact fun _ _ _ h => h) (Or.inl ⟨by rfl, ?_⟩) hS ?_
        rotate_left
        · (intro wS hSw; (try dsimp only at hSw); go_simp; try with_reducible rfl)
        try simp only [Act.put, List.setIfInBounds_toArray, List.set_cons_zero, List.set_cons_succ]
        refine AnyX.take (i := 9) (oi := _) (v := ?_) (by rw [List.getElem?_toArray]; rfl) (by kernel_rfl) (by kernel_rfl) (by kernel_rfl) (by kernel_rfl) (by kernel_rfl) (by exact fun _ _ _ h => h) (Or.inl ⟨by rfl, ?_⟩) hS ?_
        rotate_left
        · (intro wS hSw; (try dsimp only at hSw); go_simp; try with_reducible rfl)
        try simp only [Act.put, List.setIfInBounds_toArray, List.set_cons_zero, List.set_cons_succ]
        refine AnyX.take (i := 10) (oi := _) (v := ?_) (by rw [List.getElem?_toArray]; rfl) (by kernel_rfl) (by kernel_rfl) (by kernel_rfl) (by kernel_rfl) (by kernel_rfl) (by exact fun _ _ _ h => h) (Or.inl ⟨by rfl, ?_⟩) hS ?_
        rotate_left
        · (intro wS hSw; (try dsimp only at hSw); go_simp; try with_reducible rfl)
        try simp only [Act.put, List.setIfInBounds_toArray, List.set_cons_zero, List.set_cons_succ]
        refine AnyX.take (i := 11) (oi := _) (v := ?_) (by rw [List.getElem?_toArray]; rfl) (by kernel_rfl) (by kernel_rfl) (by kernel_rfl) (by kernel_rfl) (by kernel_rfl) (by exact fun _ _ _ h => h) (Or.inl ⟨by rfl, ?_⟩) hS ?_
        rotate_left
        · (intro wS hSw; (try dsimp only at hSw); go_simp; rw [hwc.out]; try with_reducible rfl)
        try simp only [Act.put, List.setIfInBounds_toArray, List.set_cons_zero, List.set_cons_succ]
        refine AnyX.only (i := 7) (o := _) (by kernel_rfl) (by rw [List.getElem?_toArray]; rfl) (fun K hK => ?_)
        go_simp
        go_at_call 46
        refine (hL.out _ hT).mono ?_
        rintro e w13 ⟨rfl, hb⟩
        have hs_w13 := hb.size
        replace R0 := R0.below hb
        replace R1 := R1.below hb
        replace RZ := RZ.below hb
        replace hT := hT.below hb
        replace hB := tr hB hb (Nat.le_refl _)
        clear hb
        clear hS
        have hS : (fun w' => w'.cell? ⟨w.heap.size, 0, none⟩ = some (.string x0.durable) ∧ w'.cell? ⟨w.heap.size, 1, none⟩ = some (.string x0.pending) ∧ w'.cell? ⟨w.heap.size, 2, none⟩ = some (.int .i64 x0.count) ∧ w'.cell? ⟨w.heap.size + 1, 0, none⟩ = some (.string x1.command) ∧ w'.cell? ⟨w.heap.size + 1, 1, none⟩ = some (.string x1.reply)) w13 := ⟨R0.cells 0, R0.cells 1, R0.cells 2, R1.cells 0, R1.cells 1⟩
        refine hK.out _ _ (fun _ => hS) ?_
        clear hK K
        try simp only [Act.put, List.setIfInBounds_toArray, List.set_cons_zero, List.set_cons_succ]
        refine AnyX.take (i := 8) (oi := _) (v := ?_) (by rw [List.getElem?_toArray]; rfl) (by kernel_rfl) (by kernel_rfl) (by kernel_rfl) (by kernel_rfl) (by kernel_rfl) (by exact fun _ _ _ h => h) (Or.inl ⟨by rfl, ?_⟩) hS ?_
        rotate_left
        · (intro wS hSw; (try dsimp only at hSw); go_simp; rw [if_neg (by omega)]; try with_reducible rfl)
        try simp only [Act.put, List.setIfInBounds_toArray, List.set_cons_zero, List.set_cons_succ]
        refine AnyX.take (i := 12) (oi := _) (v := ?_) (by rw [List.getElem?_toArray]; rfl) (by kernel_rfl) (by kernel_rfl) (by kernel_rfl) (by kernel_rfl) (by kernel_rfl) (by exact fun _ _ _ h => h) (Or.inl ⟨by rfl, ?_⟩) hS ?_
        rotate_left
        · (intro wS hSw; (try dsimp only at hSw); go_simp; try with_reducible rfl)
        try simp only [Act.put, List.setIfInBounds_toArray, List.set_cons_zero, List.set_cons_succ]
        refine AnyX.only (i := 13) (o := _) (by kernel_rfl) (by rw [List.getElem?_toArray]; rfl) (fun K hK => ?_)
        have c_R0 := R0.cells; have f_R0 := R0.frozens
        have c_R1 := R1.cells; have f_R1 := R1.frozens
        have c_RZ := RZ.cells; have f_RZ := RZ.frozens
        go_simp
        clear c_R0 f_R0 c_R1 f_R1 c_RZ f_RZ
        have n_R0 := R0.keep (show (((w13.setCell ⟨w.heap.size + 1 + 1, 0, none⟩ (.string x0.durable)).setCell ⟨w.heap.size + 1 + 1, 1, none⟩ (.string (x0.pending ++ ln))).setCell ⟨w.heap.size + 1 + 1, 2, none⟩ (.int .i64 (x0.count + 1))).heap[_]? = _ from by repeat rw [Below.heap_setCell _ _ _ _ (by simp <;> omega)])
        have n_R1 := R1.keep (show (((w13.setCell ⟨w.heap.size + 1 + 1, 0, none⟩ (.string x0.durable)).setCell ⟨w.heap.size + 1 + 1, 1, none⟩ (.string (x0.pending ++ ln))).setCell ⟨w.heap.size + 1 + 1, 2, none⟩ (.int .i64 (x0.count + 1))).heap[_]? = _ from by repeat rw [Below.heap_setCell _ _ _ _ (by simp <;> omega)])
        have n_RZ : Row (((w13.setCell ⟨w.heap.size + 1 + 1, 0, none⟩ (.string x0.durable)).setCell ⟨w.heap.size + 1 + 1, 1, none⟩ (.string (x0.pending ++ ln))).setCell ⟨w.heap.size + 1 + 1, 2, none⟩ (.int .i64 (x0.count + 1))) (w.heap.size + 1 + 1) 31 [.string x0.durable, .string (x0.pending ++ ln), .int .i64 (x0.count + 1)] := by simpa using (((RZ.set 0 (.string x0.durable)).set 1 (.string (x0.pending ++ ln))).set 2 (.int .i64 (x0.count + 1)))
        clear hT
        have n_hB : Below w.heap.size w (((w13.setCell ⟨w.heap.size + 1 + 1, 0, none⟩ (.string x0.durable)).setCell ⟨w.heap.size + 1 + 1, 1, none⟩ (.string (x0.pending ++ ln))).setCell ⟨w.heap.size + 1 + 1, 2, none⟩ (.int .i64 (x0.count + 1))) := by
          repeat refine Below.setCell ?_ (by simp <;> omega) _
          exact hB
        clear hB R0 R1 RZ
        have hs_w14 : w13.heap.size ≤ (((w13.setCell ⟨w.heap.size + 1 + 1, 0, none⟩ (.string x0.durable)).setCell ⟨w.heap.size + 1 + 1, 1, none⟩ (.string (x0.pending ++ ln))).setCell ⟨w.heap.size + 1 + 1, 2, none⟩ (.int .i64 (x0.count + 1))).heap.size := by simp
        generalize (((w13.setCell ⟨w.heap.size + 1 + 1, 0, none⟩ (.string x0.durable)).setCell ⟨w.heap.size + 1 + 1, 1, none⟩ (.string (x0.pending ++ ln))).setCell ⟨w.heap.size + 1 + 1, 2, none⟩ (.int .i64 (x0.count + 1))) = w14 at *
        have hB := n_hB; clear n_hB
        have R0 := n_R0; clear n_R0
        have R1 := n_R1; clear n_R1
        have RZ := n_RZ; clear n_RZ
        clear hS
        have hS : (fun w' => w'.cell? ⟨w.heap.size, 0, none⟩ = some (.string x0.durable) ∧ w'.cell? ⟨w.heap.size, 1, none⟩ = some (.string x0.pending) ∧ w'.cell? ⟨w.heap.size, 2, none⟩ = some (.int .i64 x0.count) ∧ w'.cell? ⟨w.heap.size + 1, 0, none⟩ = some (.string x1.command) ∧ w'.cell? ⟨w.heap.size + 1, 1, none⟩ = some (.string x1.reply)) w14 := ⟨R0.cells 0, R0.cells 1, R0.cells 2, R1.cells 0, R1.cells 1⟩
        refine hK.out _ _ (fun _ => hS) ?_
        clear hK K
        try simp only [Act.put, List.setIfInBounds_toArray, List.set_cons_zero, List.set_cons_succ]
        refine AnyX.only (i := 14) (o := _) (by kernel_rfl) (by rw [List.getElem?_toArray]; rfl) (fun K hK => ?_)
        try go_simp
        clear hS
        have hS : (fun w' => w'.cell? ⟨w.heap.size, 0, none⟩ = some (.string x0.durable) ∧ w'.cell? ⟨w.heap.size, 1, none⟩ = some (.string x0.pending) ∧ w'.cell? ⟨w.heap.size, 2, none⟩ = some (.int .i64 x0.count) ∧ w'.cell? ⟨w.heap.size + 1, 0, none⟩ = some (.string x1.command) ∧ w'.cell? ⟨w.heap.size + 1, 1, none⟩ = some (.string x1.reply)) w14 := ⟨R0.cells 0, R0.cells 1, R0.cells 2, R1.cells 0, R1.cells 1⟩
        refine hK.out _ _ (fun _ => hS) ?_
        clear hK K
        try simp only [Act.put, List.setIfInBounds_toArray, List.set_cons_zero, List.set_cons_succ]
        refine AnyX.done (by kernel_rfl) ?_ _
        (try clear hS)
        refine hK0 _ _ ?_
        clear hK0 K0
        have c_R0 := R0.cells; have f_R0 := R0.frozens
        have c_R1 := R1.cells; have f_R1 := R1.frozens
        have c_RZ := RZ.cells; have f_RZ := RZ.frozens
        go_wp2_with fail
        refine bodyPost_ret (v := .tuple #[.agg #[.string x0.durable, .string (x0.pending ++ ln), .int .i64 (x0.count + 1)], .int .i64 0]) ?_ rfl ?_
        · simp [results, Tryd.results29, go_sem, c_RZ, f_RZ]
        · refine hP.out _ ?_
          repeat refine Below.setCell ?_ (by simp <;> omega) _
          exact hB
end Go.Proofs.YtnmgaponnfjciaaDoor
