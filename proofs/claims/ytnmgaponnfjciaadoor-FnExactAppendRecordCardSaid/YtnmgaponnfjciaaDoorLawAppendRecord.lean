/- The law FnExactAppendRecord: the walk of the law itself out of the contracts of the two functions. No condition beyond the form's own reach. Written by wip/genlaw.py. -/
import Derived.Deep.DeepCutAuto
import Derived.Test.YtnmgaponnfjciaaDoorCAppendRecord
import Derived.Test.YtnmgaponnfjciaaDoorLaw
import Derived.Test.YtnmgaponnfjciaaDoorCards
import Derived.Test.YtnmgaponnfjciaaDoorTie
import Derived.LaidMore
import Derived.Lay
import Derived.SevenTiedAt
import Derived.Stop.Joined
import Derived.Test.YtnmgaponnfjciaaDoorTab
import Derived.Test.YtnmgaponnfjciaaDoorLaw2
namespace Go.Proofs.YtnmgaponnfjciaaDoor
open Go.RowKit Go.ChangeShapes Go.WideShapes Go.ChangeAt
theorem IsV.frameA {α : Type} {E : Elem α} {w w' : World} {v x F} (h : IsV E w v x F) (hF : ∀ b ∈ F, w'.heap[b]? = w.heap[b]?) : IsV E w' v x F := by
  obtain ⟨cs, hv, h⟩ := h; exact ⟨cs, hv, E.frame h hF⟩
set_option maxHeartbeats 8000000 in
set_option maxRecDepth 100000 in
theorem law_AppendRecord (v0 : Value) (x0 : Log) (F0 : List Nat) (v1 : Value) (x1 : LogRecord) (F1 : List Nat) (FT : List Nat) (w : World) (h0 : IsV ELog w v0 x0 F0) (h1 : IsV ELogRecord w v1 x1 F1) (hT : IsV ETab w (.agg #[]) () FT) :
    Calls Tryd.prog 8 #[v0, v1] w fun e' w' => e' = .returned (.bool true) ∧ Below w.heap.size w w' := by
  have hS := fun (hw0 : wtLog x0 ≤ 1048576) (hw1 : wtLogRecord x1 ≤ 1048576) v0 F0 v1 F1 (w : World) (h0 : IsV ELog w v0 x0 F0) (h1 : IsV ELogRecord w v1 x1 F1) => specAppendRecord_c v0 x0 F0 v1 x1 F1 w h0 h1 hw0 hw1
  have hI := fun (hw0 : wtLog x0 ≤ 1048576) (hw1 : wtLogRecord x1 ≤ 1048576) v0 F0 v1 F1 (w : World) (h0 : IsV ELog w v0 x0 F0) (h1 : IsV ELogRecord w v1 x1 F1) (hT : IsV ETab w (.agg #[]) () FT) => AppendRecord_c v0 x0 F0 v1 x1 F1 FT w h0 h1 hw0 hw1 hT
  have AT := hT; have lAT := hT.lt; clear hT
  generalize resAppendRecord x0 x1 = r at *
  obtain ⟨r0, r1⟩ := r
  try dsimp only at hS hI
  replace hS := Lib.hid hS; replace hI := Lib.hid hI
  have A0 := h0
  have lA0 := h0.lt
  clear h0
  have A0' := A0
  obtain ⟨_, rfl, rfl, -, -, -⟩ := A0'
  have A1 := h1
  have lA1 := h1.lt
  clear h1
  have A1' := A1
  obtain ⟨_, rfl, rfl, -, -, -⟩ := A1'
  go_enter Tryd.func8, Tryd.ntmps8
  go_wp2_with fail
  have al : Below w.heap.size w ((w.alloc (.cells #[.string x0.durable, .string x0.pending, .int .i64 x0.count] 36)).alloc (.cells #[.string x1.command, .string x1.reply] 23)) := by
    repeat refine Below.alloc ?_ (by simp <;> omega) _
    exact Below.refl _ _
  have P0 : Row ((w.alloc (.cells #[.string x0.durable, .string x0.pending, .int .i64 x0.count] 36)).alloc (.cells #[.string x1.command, .string x1.reply] 23)) (w.heap.size) 36 [.string x0.durable, .string x0.pending, .int .i64 x0.count] := by simp [row_alloc] <;> omega
  have P1 : Row ((w.alloc (.cells #[.string x0.durable, .string x0.pending, .int .i64 x0.count] 36)).alloc (.cells #[.string x1.command, .string x1.reply] 23)) (w.heap.size + 1) 23 [.string x1.command, .string x1.reply] := by simp [row_alloc] <;> omega
  have hs_w1 : w.heap.size + 1 < ((w.alloc (.cells #[.string x0.durable, .string x0.pending, .int .i64 x0.count] 36)).alloc (.cells #[.string x1.command, .string x1.reply] 23)).heap.size := by simp <;> omega
  replace AT := AT.below al
  replace A0 := A0.below al
  replace A1 := A1.below al
  have hB := al
  generalize ((w.alloc (.cells #[.string x0.durable, .string x0.pending, .int .i64 x0.count] 36)).alloc (.cells #[.string x1.command, .string x1.reply] 23)) = w1 at *
  clear al
  have c_P0 := P0.cells
  have c_P1 := P1.cells
  refine (szLog_c _ x0 F0 (1048576) _ A0 (by omega) (by omega)).mono ?_
  rintro e' w2 ⟨rfl, hb⟩
  have hs_w2 := hb.size
  replace P0 := P0.below hb
  replace P1 := P1.below hb
  replace AT := AT.below hb
  replace A0 := A0.below hb
  replace A1 := A1.below hb
  replace hB := tr hB hb (Nat.le_refl _)
  clear hb
  replace c_P0 := P0.cells
  replace c_P1 := P1.cells
  rcases szr_or (1048576) (wtLog x0) with ⟨e1, l1⟩ | ⟨e1, l1⟩
  · simp only [e1]
    have z1 := Lib.hid e1; clear e1
    go_wp2_with fail
    go_ret
    exact ⟨rfl, hB⟩
  simp only [e1]
  have z0 := Lib.hid e1; clear e1
  have hw0 : wtLog x0 ≤ 1048576 := by omega
  go_wp2_with fail
  refine (szLogRecord_c _ x1 F1 (1048576 - (wtLog x0)) _ A1 (by omega) (by omega)).mono ?_
  rintro e' w3 ⟨rfl, hb⟩
  have hs_w3 := hb.size
  replace P0 := P0.below hb
  replace P1 := P1.below hb
  replace AT := AT.below hb
  replace A0 := A0.below hb
  replace A1 := A1.below hb
  replace hB := tr hB hb (Nat.le_refl _)
  clear hb
  replace c_P0 := P0.cells
  replace c_P1 := P1.cells
  rcases szr_or (1048576 - (wtLog x0)) (wtLogRecord x1) with ⟨e1, l1⟩ | ⟨e1, l1⟩
  · simp only [e1]
    have z1 := Lib.hid e1; clear e1
    go_wp2_with fail
    go_ret
    exact ⟨rfl, hB⟩
  simp only [e1]
  have z1 := Lib.hid e1; clear e1
  have hw1 : wtLogRecord x1 ≤ 1048576 := by omega
  go_wp2_with fail
  replace hS := Lib.hid (hS.out hw0 hw1); replace hI := Lib.hid (hI.out hw0 hw1)
  clear c_P0 c_P1
  have hSp := hS; clear hS
  go_cut [6, 7] (fun sa sb wx => ∃ b : Nat, sa = .pointer (some ⟨b, 0, none⟩) ∧ sb = .int .i64 r1 ∧ Row wx b 31 [.string r0.durable, .string r0.pending, .int .i64 r0.count] ∧ w3.heap.size ≤ b ∧ r0.durable.size ≤ maxLen ∧ r0.pending.size ≤ maxLen ∧ Below w3.heap.size w3 wx)
  · have hbC := Below.refl w3.heap.size w3
    refine AnyX.start (S := (fun w' => w'.cell? ⟨w.heap.size, 0, none⟩ = some (.string x0.durable) ∧ w'.cell? ⟨w.heap.size, 1, none⟩ = some (.string x0.pending) ∧ w'.cell? ⟨w.heap.size, 2, none⟩ = some (.int .i64 x0.count) ∧ w'.cell? ⟨w.heap.size + 1, 0, none⟩ = some (.string x1.command) ∧ w'.cell? ⟨w.heap.size + 1, 1, none⟩ = some (.string x1.reply))) (X := (fun _ => false)) (by kernel_rfl) ?_
    have al : Below w3.heap.size w3 w3.drew := belowDrewN (Below.refl _ _) 1
    have hs_w51 := al.size
    replace P0 := P0.below al
    replace P1 := P1.below al
    replace AT := AT.below al
    replace A0 := A0.below al
    replace A1 := A1.below al
    replace hB := tr hB al (Nat.le_refl _)
    replace hbC := tr hbC al (Nat.le_refl _)
    generalize w3.drew = w51 at *
    clear al
    have hS : (fun w' => w'.cell? ⟨w.heap.size, 0, none⟩ = some (.string x0.durable) ∧ w'.cell? ⟨w.heap.size, 1, none⟩ = some (.string x0.pending) ∧ w'.cell? ⟨w.heap.size, 2, none⟩ = some (.int .i64 x0.count) ∧ w'.cell? ⟨w.heap.size + 1, 0, none⟩ = some (.string x1.command) ∧ w'.cell? ⟨w.heap.size + 1, 1, none⟩ = some (.string x1.reply)) w51 := ⟨P0.cells 0, P0.cells 1, P0.cells 2, P1.cells 0, P1.cells 1⟩
    refine AnyX.take (i := 0) (oi := _) (v := ?_) (by rw [List.getElem?_toArray]; rfl) (by kernel_rfl) (by kernel_rfl) (by kernel_rfl) (by kernel_rfl) (by kernel_rfl) (by exact fun _ _ _ h => h) (Or.inl ⟨by rfl, ?_⟩) hS ?_
    rotate_left
    · (intro wS hSw; (try dsimp only at hSw); go_simp; try with_reducible rfl)
    try simp only [Act.put, List.setIfInBounds_toArray, List.set_cons_zero, List.set_cons_succ]
    refine AnyX.take (i := 2) (oi := _) (v := ?_) (by rw [List.getElem?_toArray]; rfl) (by kernel_rfl) (by kernel_rfl) (by kernel_rfl) (by kernel_rfl) (by kernel_rfl) (by exact fun _ _ _ h => h) (Or.inl ⟨by rfl, ?_⟩) hS ?_
    rotate_left
    · (intro wS hSw; (try dsimp only at hSw); go_simp; try with_reducible rfl)
    try simp only [Act.put, List.setIfInBounds_toArray, List.set_cons_zero, List.set_cons_succ]
    refine AnyX.two (i := 1) (j := 8) (oi := _) (oj := _) (by kernel_rfl) (by rw [List.getElem?_toArray]; rfl) (by rw [List.getElem?_toArray]; rfl) (fun K hK => ?_) (fun K hK => ?_)
    · go_simp
      go_at_call 22
      refine (toLog_c _ x0 F0 _ A0 hw0).mono ?_
      rintro e w52 ⟨y0v, Ky0, rfl, y0, -, -, hb⟩
      have hs_w52 := hb.size
      replace P0 := P0.below hb
      replace P1 := P1.below hb
      replace AT := AT.below hb
      replace A0 := A0.below hb
      replace A1 := A1.below hb
      replace hB := tr hB hb (Nat.le_refl _)
      replace hbC := tr hbC hb (Nat.le_refl _)
      clear hb
      clear hS
      have hS : (fun w' => w'.cell? ⟨w.heap.size, 0, none⟩ = some (.string x0.durable) ∧ w'.cell? ⟨w.heap.size, 1, none⟩ = some (.string x0.pending) ∧ w'.cell? ⟨w.heap.size, 2, none⟩ = some (.int .i64 x0.count) ∧ w'.cell? ⟨w.heap.size + 1, 0, none⟩ = some (.string x1.command) ∧ w'.cell? ⟨w.heap.size + 1, 1, none⟩ = some (.string x1.reply)) w52 := ⟨P0.cells 0, P0.cells 1, P0.cells 2, P1.cells 0, P1.cells 1⟩
      refine hK.out _ _ (fun _ => hS) ?_
      clear hK K
      try simp only [Act.put, List.setIfInBounds_toArray, List.set_cons_zero, List.set_cons_succ]
      refine AnyX.two (i := 3) (j := 8) (oi := _) (oj := _) (by kernel_rfl) (by rw [List.getElem?_toArray]; rfl) (by rw [List.getElem?_toArray]; rfl) (fun K hK => ?_) (fun K hK => ?_)
      · go_simp
        go_at_call 15
        refine (toLogRecord_c _ x1 F1 _ A1 hw1).mono ?_
        rintro e w53 ⟨y1v, Ky1, rfl, y1, -, -, hb⟩
        have hs_w53 := hb.size
        replace P0 := P0.below hb
        replace P1 := P1.below hb
        replace AT := AT.below hb
        replace A0 := A0.below hb
        replace A1 := A1.below hb
        replace y0 := y0.below hb
        replace hB := tr hB hb (Nat.le_refl _)
        replace hbC := tr hbC hb (Nat.le_refl _)
        clear hb
        clear hS
        have hS : (fun w' => w'.cell? ⟨w.heap.size, 0, none⟩ = some (.string x0.durable) ∧ w'.cell? ⟨w.heap.size, 1, none⟩ = some (.string x0.pending) ∧ w'.cell? ⟨w.heap.size, 2, none⟩ = some (.int .i64 x0.count) ∧ w'.cell? ⟨w.heap.size + 1, 0, none⟩ = some (.string x1.command) ∧ w'.cell? ⟨w.heap.size + 1, 1, none⟩ = some (.string x1.reply)) w53 := ⟨P0.cells 0, P0.cells 1, P0.cells 2, P1.cells 0, P1.cells 1⟩
        refine hK.out _ _ (fun _ => hS) ?_
        clear hK K
        try simp only [Act.put, List.setIfInBounds_toArray, List.set_cons_zero, List.set_cons_succ]
        refine AnyX.two (i := 4) (j := 8) (oi := _) (oj := _) (by kernel_rfl) (by rw [List.getElem?_toArray]; rfl) (by rw [List.getElem?_toArray]; rfl) (fun K hK => ?_) (fun K hK => ?_)
        · go_simp
          go_at_call 28
          refine (hSp.out _ Ky0 _ Ky1 _ y0 y1).mono ?_
          rintro e w54 ⟨u0, GU0, rfl, U0, hb⟩
          have hs_w54 := hb.size
          replace P0 := P0.below hb
          replace P1 := P1.below hb
          replace AT := AT.below hb
          replace A0 := A0.below hb
          replace A1 := A1.below hb
          replace y0 := y0.below hb
          replace y1 := y1.below hb
          replace hB := tr hB hb (Nat.le_refl _)
          replace hbC := tr hbC hb (Nat.le_refl _)
          clear hb
          obtain ⟨_, rfl, rfl, m1, m2, -⟩ := U0
          clear y0 y1
          clear hS
          have hS : (fun w' => w'.cell? ⟨w.heap.size, 0, none⟩ = some (.string x0.durable) ∧ w'.cell? ⟨w.heap.size, 1, none⟩ = some (.string x0.pending) ∧ w'.cell? ⟨w.heap.size, 2, none⟩ = some (.int .i64 x0.count) ∧ w'.cell? ⟨w.heap.size + 1, 0, none⟩ = some (.string x1.command) ∧ w'.cell? ⟨w.heap.size + 1, 1, none⟩ = some (.string x1.reply)) w54 := ⟨P0.cells 0, P0.cells 1, P0.cells 2, P1.cells 0, P1.cells 1⟩
          refine hK.out _ _ (fun _ => hS) ?_
          clear hK K
          try simp only [Act.put, List.setIfInBounds_toArray, List.set_cons_zero, List.set_cons_succ]
          refine AnyX.take (i := 5) (oi := _) (v := ?_) (by rw [List.getElem?_toArray]; rfl) (by kernel_rfl) (by kernel_rfl) (by kernel_rfl) (by kernel_rfl) (by kernel_rfl) (by exact fun _ _ _ h => h) (Or.inl ⟨by rfl, ?_⟩) hS ?_
          rotate_left
          · (intro wS hSw; (try dsimp only at hSw); go_simp; try with_reducible rfl)
          try simp only [Act.put, List.setIfInBounds_toArray, List.set_cons_zero, List.set_cons_succ]
          refine AnyX.take (i := 6) (oi := _) (v := ?_) (by rw [List.getElem?_toArray]; rfl) (by kernel_rfl) (by kernel_rfl) (by kernel_rfl) (by kernel_rfl) (by kernel_rfl) (by exact fun _ _ _ h => h) (Or.inl ⟨by rfl, ?_⟩) hS ?_
          rotate_left
          · (intro wS hSw; (try dsimp only at hSw); go_simp; try with_reducible rfl)
          try simp only [Act.put, List.setIfInBounds_toArray, List.set_cons_zero, List.set_cons_succ]
          refine AnyX.take (i := 7) (oi := _) (v := ?_) (by rw [List.getElem?_toArray]; rfl) (by kernel_rfl) (by kernel_rfl) (by kernel_rfl) (by kernel_rfl) (by kernel_rfl) (by exact fun _ _ _ h => h) (Or.inl ⟨by rfl, ?_⟩) hS ?_
          rotate_left
          · (intro wS hSw; (try dsimp only at hSw); go_simp; try with_reducible rfl)
          try simp only [Act.put, List.setIfInBounds_toArray, List.set_cons_zero, List.set_cons_succ]
          refine AnyX.only (i := 8) (o := _) (by kernel_rfl) (by rw [List.getElem?_toArray]; rfl) (fun K hK => ?_)
          go_simp
          have al : Below w54.heap.size w54 (w54.alloc (.cells #[.string ⟨#[]⟩, .string ⟨#[]⟩, .int .i64 0] 31)) := by
            repeat refine Below.alloc ?_ (by simp <;> omega) _
            exact Below.refl _ _
          have n_W0 := Row.made w54 31 [.string ⟨#[]⟩, .string ⟨#[]⟩, .int .i64 0]
          have hs_w55 : w54.heap.size < (w54.alloc (.cells #[.string ⟨#[]⟩, .string ⟨#[]⟩, .int .i64 0] 31)).heap.size := by simp
          replace P0 := P0.below al
          replace P1 := P1.below al
          replace AT := AT.below al
          replace A0 := A0.below al
          replace A1 := A1.below al
          replace hB := tr hB al (Nat.le_refl _)
          replace hbC := tr hbC al (Nat.le_refl _)
          generalize (w54.alloc (.cells #[.string ⟨#[]⟩, .string ⟨#[]⟩, .int .i64 0] 31)) = w55 at *
          have W0 := n_W0; clear n_W0
          clear al
          clear hS
          have hS : (fun w' => w'.cell? ⟨w.heap.size, 0, none⟩ = some (.string x0.durable) ∧ w'.cell? ⟨w.heap.size, 1, none⟩ = some (.string x0.pending) ∧ w'.cell? ⟨w.heap.size, 2, none⟩ = some (.int .i64 x0.count) ∧ w'.cell? ⟨w.heap.size + 1, 0, none⟩ = some (.string x1.command) ∧ w'.cell? ⟨w.heap.size + 1, 1, none⟩ = some (.string x1.reply)) w55 := ⟨P0.cells 0, P0.cells 1, P0.cells 2, P1.cells 0, P1.cells 1⟩
          refine hK.out _ _ (fun _ => hS) ?_
          clear hK K
          try simp only [Act.put, List.setIfInBounds_toArray, List.set_cons_zero, List.set_cons_succ]
          refine AnyX.only (i := 9) (o := _) (by kernel_rfl) (by rw [List.getElem?_toArray]; rfl) (fun K hK => ?_)
          have c_P0 := P0.cells; have f_P0 := P0.frozens
          have c_P1 := P1.cells; have f_P1 := P1.frozens
          have c_W0 := W0.cells; have f_W0 := W0.frozens
          go_simp
          clear c_P0 f_P0 c_P1 f_P1 c_W0 f_W0
          have n_hbC : Below w3.heap.size w3 (((w55.setCell ⟨w54.heap.size, 0, none⟩ (.string r0.durable)).setCell ⟨w54.heap.size, 1, none⟩ (.string r0.pending)).setCell ⟨w54.heap.size, 2, none⟩ (.int .i64 r0.count)) := by
            repeat refine Below.setCell ?_ (by simp <;> omega) _
            exact hbC
          clear hbC
          have n_P0 := P0.keep (show (((w55.setCell ⟨w54.heap.size, 0, none⟩ (.string r0.durable)).setCell ⟨w54.heap.size, 1, none⟩ (.string r0.pending)).setCell ⟨w54.heap.size, 2, none⟩ (.int .i64 r0.count)).heap[_]? = _ from by repeat rw [Below.heap_setCell _ _ _ _ (by simp <;> omega)])
          have n_P1 := P1.keep (show (((w55.setCell ⟨w54.heap.size, 0, none⟩ (.string r0.durable)).setCell ⟨w54.heap.size, 1, none⟩ (.string r0.pending)).setCell ⟨w54.heap.size, 2, none⟩ (.int .i64 r0.count)).heap[_]? = _ from by repeat rw [Below.heap_setCell _ _ _ _ (by simp <;> omega)])
          have n_W0 : Row (((w55.setCell ⟨w54.heap.size, 0, none⟩ (.string r0.durable)).setCell ⟨w54.heap.size, 1, none⟩ (.string r0.pending)).setCell ⟨w54.heap.size, 2, none⟩ (.int .i64 r0.count)) (w54.heap.size) 31 [.string r0.durable, .string r0.pending, .int .i64 r0.count] := by simpa using (((W0.set 0 (.string r0.durable)).set 1 (.string r0.pending)).set 2 (.int .i64 r0.count))
          have n_AT := AT.frameA (w' := (((w55.setCell ⟨w54.heap.size, 0, none⟩ (.string r0.durable)).setCell ⟨w54.heap.size, 1, none⟩ (.string r0.pending)).setCell ⟨w54.heap.size, 2, none⟩ (.int .i64 r0.count))) fun b hb => by
            have h6 := lAT b hb
            repeat rw [Below.heap_setCell _ _ _ _ (by simp <;> omega)]
          have n_A0 := A0.frameA (w' := (((w55.setCell ⟨w54.heap.size, 0, none⟩ (.string r0.durable)).setCell ⟨w54.heap.size, 1, none⟩ (.string r0.pending)).setCell ⟨w54.heap.size, 2, none⟩ (.int .i64 r0.count))) fun b hb => by
            have h6 := lA0 b hb
            repeat rw [Below.heap_setCell _ _ _ _ (by simp <;> omega)]
          have n_A1 := A1.frameA (w' := (((w55.setCell ⟨w54.heap.size, 0, none⟩ (.string r0.durable)).setCell ⟨w54.heap.size, 1, none⟩ (.string r0.pending)).setCell ⟨w54.heap.size, 2, none⟩ (.int .i64 r0.count))) fun b hb => by
            have h6 := lA1 b hb
            repeat rw [Below.heap_setCell _ _ _ _ (by simp <;> omega)]
          have n_hB : Below w.heap.size w (((w55.setCell ⟨w54.heap.size, 0, none⟩ (.string r0.durable)).setCell ⟨w54.heap.size, 1, none⟩ (.string r0.pending)).setCell ⟨w54.heap.size, 2, none⟩ (.int .i64 r0.count)) := by
            repeat refine Below.setCell ?_ (by simp <;> omega) _
            exact hB
          clear hB P0 P1 W0 AT A0 A1
          have hs_w56 : w55.heap.size ≤ (((w55.setCell ⟨w54.heap.size, 0, none⟩ (.string r0.durable)).setCell ⟨w54.heap.size, 1, none⟩ (.string r0.pending)).setCell ⟨w54.heap.size, 2, none⟩ (.int .i64 r0.count)).heap.size := by simp
          generalize (((w55.setCell ⟨w54.heap.size, 0, none⟩ (.string r0.durable)).setCell ⟨w54.heap.size, 1, none⟩ (.string r0.pending)).setCell ⟨w54.heap.size, 2, none⟩ (.int .i64 r0.count)) = w56 at *
          have hB := n_hB; clear n_hB
          have P0 := n_P0; clear n_P0
          have P1 := n_P1; clear n_P1
          have W0 := n_W0; clear n_W0
          have AT := n_AT; clear n_AT
          have A0 := n_A0; clear n_A0
          have A1 := n_A1; clear n_A1
          have hbC := n_hbC; clear n_hbC
          clear hS
          have hS : (fun w' => w'.cell? ⟨w.heap.size, 0, none⟩ = some (.string x0.durable) ∧ w'.cell? ⟨w.heap.size, 1, none⟩ = some (.string x0.pending) ∧ w'.cell? ⟨w.heap.size, 2, none⟩ = some (.int .i64 x0.count) ∧ w'.cell? ⟨w.heap.size + 1, 0, none⟩ = some (.string x1.command) ∧ w'.cell? ⟨w.heap.size + 1, 1, none⟩ = some (.string x1.reply)) w56 := ⟨P0.cells 0, P0.cells 1, P0.cells 2, P1.cells 0, P1.cells 1⟩
          refine hK.out _ _ (fun _ => hS) ?_
          clear hK K
          try simp only [Act.put, List.setIfInBounds_toArray, List.set_cons_zero, List.set_cons_succ]
          refine AnyX.only (i := 10) (o := _) (by kernel_rfl) (by rw [List.getElem?_toArray]; rfl) (fun K hK => ?_)
          try go_simp
          clear hS
          have hS : (fun w' => w'.cell? ⟨w.heap.size, 0, none⟩ = some (.string x0.durable) ∧ w'.cell? ⟨w.heap.size, 1, none⟩ = some (.string x0.pending) ∧ w'.cell? ⟨w.heap.size, 2, none⟩ = some (.int .i64 x0.count) ∧ w'.cell? ⟨w.heap.size + 1, 0, none⟩ = some (.string x1.command) ∧ w'.cell? ⟨w.heap.size + 1, 1, none⟩ = some (.string x1.reply)) w56 := ⟨P0.cells 0, P0.cells 1, P0.cells 2, P1.cells 0, P1.cells 1⟩
          refine hK.out _ _ (fun _ => hS) ?_
          clear hK K
          try simp only [Act.put, List.setIfInBounds_toArray, List.set_cons_zero, List.set_cons_succ]
          refine AnyX.done (by kernel_rfl) ?_ _
          (try clear hS)
          go_wp2_with fail
          go_meet
          exact ⟨w54.heap.size, rfl, rfl, W0, by omega, m1, m2, hbC⟩
        · go_simp
          have al : Below w53.heap.size w53 (w53.alloc (.cells #[.string ⟨#[]⟩, .string ⟨#[]⟩, .int .i64 0] 31)) := by
            repeat refine Below.alloc ?_ (by simp <;> omega) _
            exact Below.refl _ _
          have n_W0 := Row.made w53 31 [.string ⟨#[]⟩, .string ⟨#[]⟩, .int .i64 0]
          have hs_w57 : w53.heap.size < (w53.alloc (.cells #[.string ⟨#[]⟩, .string ⟨#[]⟩, .int .i64 0] 31)).heap.size := by simp
          replace P0 := P0.below al
          replace P1 := P1.below al
          replace AT := AT.below al
          replace A0 := A0.below al
          replace A1 := A1.below al
          replace y0 := y0.below al
          replace y1 := y1.below al
          replace hB := tr hB al (Nat.le_refl _)
          replace hbC := tr hbC al (Nat.le_refl _)
          generalize (w53.alloc (.cells #[.string ⟨#[]⟩, .string ⟨#[]⟩, .int .i64 0] 31)) = w57 at *
          have W0 := n_W0; clear n_W0
          clear al
          clear hS
          have hS : (fun w' => w'.cell? ⟨w.heap.size, 0, none⟩ = some (.string x0.durable) ∧ w'.cell? ⟨w.heap.size, 1, none⟩ = some (.string x0.pending) ∧ w'.cell? ⟨w.heap.size, 2, none⟩ = some (.int .i64 x0.count) ∧ w'.cell? ⟨w.heap.size + 1, 0, none⟩ = some (.string x1.command) ∧ w'.cell? ⟨w.heap.size + 1, 1, none⟩ = some (.string x1.reply)) w57 := ⟨P0.cells 0, P0.cells 1, P0.cells 2, P1.cells 0, P1.cells 1⟩
          refine hK.out _ _ (fun _ => hS) ?_
          clear hK K
          try simp only [Act.put, List.setIfInBounds_toArray, List.set_cons_zero, List.set_cons_succ]
          refine AnyX.only (i := 4) (o := _) (by kernel_rfl) (by rw [List.getElem?_toArray]; rfl) (fun K hK => ?_)
          go_simp
          go_at_call 28
          refine (hSp.out _ Ky0 _ Ky1 _ y0 y1).mono ?_
          rintro e w58 ⟨u0, GU0, rfl, U0, hb⟩
          have hs_w58 := hb.size
          replace P0 := P0.below hb
          replace P1 := P1.below hb
          replace W0 := W0.below hb
          replace AT := AT.below hb
          replace A0 := A0.below hb
          replace A1 := A1.below hb
          replace y0 := y0.below hb
          replace y1 := y1.below hb
          replace hB := tr hB hb (Nat.le_refl _)
          replace hbC := tr hbC hb (Nat.le_refl _)
          clear hb
          obtain ⟨_, rfl, rfl, m1, m2, -⟩ := U0
          clear y0 y1
          clear hS
          have hS : (fun w' => w'.cell? ⟨w.heap.size, 0, none⟩ = some (.string x0.durable) ∧ w'.cell? ⟨w.heap.size, 1, none⟩ = some (.string x0.pending) ∧ w'.cell? ⟨w.heap.size, 2, none⟩ = some (.int .i64 x0.count) ∧ w'.cell? ⟨w.heap.size + 1, 0, none⟩ = some (.string x1.command) ∧ w'.cell? ⟨w.heap.size + 1, 1, none⟩ = some (.string x1.reply)) w58 := ⟨P0.cells 0, P0.cells 1, P0.cells 2, P1.cells 0, P1.cells 1⟩
          refine hK.out _ _ (fun _ => hS) ?_
          clear hK K
          try simp only [Act.put, List.setIfInBounds_toArray, List.set_cons_zero, List.set_cons_succ]
          refine AnyX.take (i := 5) (oi := _) (v := ?_) (by rw [List.getElem?_toArray]; rfl) (by kernel_rfl) (by kernel_rfl) (by kernel_rfl) (by kernel_rfl) (by kernel_rfl) (by exact fun _ _ _ h => h) (Or.inl ⟨by rfl, ?_⟩) hS ?_
          rotate_left
          · (intro wS hSw; (try dsimp only at hSw); go_simp; try with_reducible rfl)
          try simp only [Act.put, List.setIfInBounds_toArray, List.set_cons_zero, List.set_cons_succ]
          refine AnyX.take (i := 6) (oi := _) (v := ?_) (by rw [List.getElem?_toArray]; rfl) (by kernel_rfl) (by kernel_rfl) (by kernel_rfl) (by kernel_rfl) (by kernel_rfl) (by exact fun _ _ _ h => h) (Or.inl ⟨by rfl, ?_⟩) hS ?_
          rotate_left
          · (intro wS hSw; (try dsimp only at hSw); go_simp; try with_reducible rfl)
          try simp only [Act.put, List.setIfInBounds_toArray, List.set_cons_zero, List.set_cons_succ]
          refine AnyX.take (i := 7) (oi := _) (v := ?_) (by rw [List.getElem?_toArray]; rfl) (by kernel_rfl) (by kernel_rfl) (by kernel_rfl) (by kernel_rfl) (by kernel_rfl) (by exact fun _ _ _ h => h) (Or.inl ⟨by rfl, ?_⟩) hS ?_
          rotate_left
          · (intro wS hSw; (try dsimp only at hSw); go_simp; try with_reducible rfl)
          try simp only [Act.put, List.setIfInBounds_toArray, List.set_cons_zero, List.set_cons_succ]
          refine AnyX.only (i := 9) (o := _) (by kernel_rfl) (by rw [List.getElem?_toArray]; rfl) (fun K hK => ?_)
          have c_P0 := P0.cells; have f_P0 := P0.frozens
          have c_P1 := P1.cells; have f_P1 := P1.frozens
          have c_W0 := W0.cells; have f_W0 := W0.frozens
          go_simp
          clear c_P0 f_P0 c_P1 f_P1 c_W0 f_W0
          have n_hbC : Below w3.heap.size w3 (((w58.setCell ⟨w53.heap.size, 0, none⟩ (.string r0.durable)).setCell ⟨w53.heap.size, 1, none⟩ (.string r0.pending)).setCell ⟨w53.heap.size, 2, none⟩ (.int .i64 r0.count)) := by
            repeat refine Below.setCell ?_ (by simp <;> omega) _
            exact hbC
          clear hbC
          have n_P0 := P0.keep (show (((w58.setCell ⟨w53.heap.size, 0, none⟩ (.string r0.durable)).setCell ⟨w53.heap.size, 1, none⟩ (.string r0.pending)).setCell ⟨w53.heap.size, 2, none⟩ (.int .i64 r0.count)).heap[_]? = _ from by repeat rw [Below.heap_setCell _ _ _ _ (by simp <;> omega)])
          have n_P1 := P1.keep (show (((w58.setCell ⟨w53.heap.size, 0, none⟩ (.string r0.durable)).setCell ⟨w53.heap.size, 1, none⟩ (.string r0.pending)).setCell ⟨w53.heap.size, 2, none⟩ (.int .i64 r0.count)).heap[_]? = _ from by repeat rw [Below.heap_setCell _ _ _ _ (by simp <;> omega)])
          have n_W0 : Row (((w58.setCell ⟨w53.heap.size, 0, none⟩ (.string r0.durable)).setCell ⟨w53.heap.size, 1, none⟩ (.string r0.pending)).setCell ⟨w53.heap.size, 2, none⟩ (.int .i64 r0.count)) (w53.heap.size) 31 [.string r0.durable, .string r0.pending, .int .i64 r0.count] := by simpa using (((W0.set 0 (.string r0.durable)).set 1 (.string r0.pending)).set 2 (.int .i64 r0.count))
          have n_AT := AT.frameA (w' := (((w58.setCell ⟨w53.heap.size, 0, none⟩ (.string r0.durable)).setCell ⟨w53.heap.size, 1, none⟩ (.string r0.pending)).setCell ⟨w53.heap.size, 2, none⟩ (.int .i64 r0.count))) fun b hb => by
            have h6 := lAT b hb
            repeat rw [Below.heap_setCell _ _ _ _ (by simp <;> omega)]
          have n_A0 := A0.frameA (w' := (((w58.setCell ⟨w53.heap.size, 0, none⟩ (.string r0.durable)).setCell ⟨w53.heap.size, 1, none⟩ (.string r0.pending)).setCell ⟨w53.heap.size, 2, none⟩ (.int .i64 r0.count))) fun b hb => by
            have h6 := lA0 b hb
            repeat rw [Below.heap_setCell _ _ _ _ (by simp <;> omega)]
          have n_A1 := A1.frameA (w' := (((w58.setCell ⟨w53.heap.size, 0, none⟩ (.string r0.durable)).setCell ⟨w53.heap.size, 1, none⟩ (.string r0.pending)).setCell ⟨w53.heap.size, 2, none⟩ (.int .i64 r0.count))) fun b hb => by
            have h6 := lA1 b hb
            repeat rw [Below.heap_setCell _ _ _ _ (by simp <;> omega)]
          have n_hB : Below w.heap.size w (((w58.setCell ⟨w53.heap.size, 0, none⟩ (.string r0.durable)).setCell ⟨w53.heap.size, 1, none⟩ (.string r0.pending)).setCell ⟨w53.heap.size, 2, none⟩ (.int .i64 r0.count)) := by
            repeat refine Below.setCell ?_ (by simp <;> omega) _
            exact hB
          clear hB P0 P1 W0 AT A0 A1
          have hs_w59 : w58.heap.size ≤ (((w58.setCell ⟨w53.heap.size, 0, none⟩ (.string r0.durable)).setCell ⟨w53.heap.size, 1, none⟩ (.string r0.pending)).setCell ⟨w53.heap.size, 2, none⟩ (.int .i64 r0.count)).heap.size := by simp
          generalize (((w58.setCell ⟨w53.heap.size, 0, none⟩ (.string r0.durable)).setCell ⟨w53.heap.size, 1, none⟩ (.string r0.pending)).setCell ⟨w53.heap.size, 2, none⟩ (.int .i64 r0.count)) = w59 at *
          have hB := n_hB; clear n_hB
          have P0 := n_P0; clear n_P0
          have P1 := n_P1; clear n_P1
          have W0 := n_W0; clear n_W0
          have AT := n_AT; clear n_AT
          have A0 := n_A0; clear n_A0
          have A1 := n_A1; clear n_A1
          have hbC := n_hbC; clear n_hbC
          clear hS
          have hS : (fun w' => w'.cell? ⟨w.heap.size, 0, none⟩ = some (.string x0.durable) ∧ w'.cell? ⟨w.heap.size, 1, none⟩ = some (.string x0.pending) ∧ w'.cell? ⟨w.heap.size, 2, none⟩ = some (.int .i64 x0.count) ∧ w'.cell? ⟨w.heap.size + 1, 0, none⟩ = some (.string x1.command) ∧ w'.cell? ⟨w.heap.size + 1, 1, none⟩ = some (.string x1.reply)) w59 := ⟨P0.cells 0, P0.cells 1, P0.cells 2, P1.cells 0, P1.cells 1⟩
          refine hK.out _ _ (fun _ => hS) ?_
          clear hK K
          try simp only [Act.put, List.setIfInBounds_toArray, List.set_cons_zero, List.set_cons_succ]
          refine AnyX.only (i := 10) (o := _) (by kernel_rfl) (by rw [List.getElem?_toArray]; rfl) (fun K hK => ?_)
          try go_simp
          clear hS
          have hS : (fun w' => w'.cell? ⟨w.heap.size, 0, none⟩ = some (.string x0.durable) ∧ w'.cell? ⟨w.heap.size, 1, none⟩ = some (.string x0.pending) ∧ w'.cell? ⟨w.heap.size, 2, none⟩ = some (.int .i64 x0.count) ∧ w'.cell? ⟨w.heap.size + 1, 0, none⟩ = some (.string x1.command) ∧ w'.cell? ⟨w.heap.size + 1, 1, none⟩ = some (.string x1.reply)) w59 := ⟨P0.cells 0, P0.cells 1, P0.cells 2, P1.cells 0, P1.cells 1⟩
          refine hK.out _ _ (fun _ => hS) ?_
          clear hK K
          try simp only [Act.put, List.setIfInBounds_toArray, List.set_cons_zero, List.set_cons_succ]
          refine AnyX.done (by kernel_rfl) ?_ _
          (try clear hS)
          go_wp2_with fail
          go_meet
          exact ⟨w53.heap.size, rfl, rfl, W0, by omega, m1, m2, hbC⟩
      · go_simp
        have al : Below w52.heap.size w52 (w52.alloc (.cells #[.string ⟨#[]⟩, .string ⟨#[]⟩, .int .i64 0] 31)) := by
          repeat refine Below.alloc ?_ (by simp <;> omega) _
          exact Below.refl _ _
        have n_W0 := Row.made w52 31 [.string ⟨#[]⟩, .string ⟨#[]⟩, .int .i64 0]
        have hs_w60 : w52.heap.size < (w52.alloc (.cells #[.string ⟨#[]⟩, .string ⟨#[]⟩, .int .i64 0] 31)).heap.size := by simp
        replace P0 := P0.below al
        replace P1 := P1.below al
        replace AT := AT.below al
        replace A0 := A0.below al
        replace A1 := A1.below al
        replace y0 := y0.below al
        replace hB := tr hB al (Nat.le_refl _)
        replace hbC := tr hbC al (Nat.le_refl _)
        generalize (w52.alloc (.cells #[.string ⟨#[]⟩, .string ⟨#[]⟩, .int .i64 0] 31)) = w60 at *
        have W0 := n_W0; clear n_W0
        clear al
        clear hS
        have hS : (fun w' => w'.cell? ⟨w.heap.size, 0, none⟩ = some (.string x0.durable) ∧ w'.cell? ⟨w.heap.size, 1, none⟩ = some (.string x0.pending) ∧ w'.cell? ⟨w.heap.size, 2, none⟩ = some (.int .i64 x0.count) ∧ w'.cell? ⟨w.heap.size + 1, 0, none⟩ = some (.string x1.command) ∧ w'.cell? ⟨w.heap.size + 1, 1, none⟩ = some (.string x1.reply)) w60 := ⟨P0.cells 0, P0.cells 1, P0.cells 2, P1.cells 0, P1.cells 1⟩
        refine hK.out _ _ (fun _ => hS) ?_
        clear hK K
        try simp only [Act.put, List.setIfInBounds_toArray, List.set_cons_zero, List.set_cons_succ]
        refine AnyX.only (i := 3) (o := _) (by kernel_rfl) (by rw [List.getElem?_toArray]; rfl) (fun K hK => ?_)
        go_simp
        go_at_call 15
        refine (toLogRecord_c _ x1 F1 _ A1 hw1).mono ?_
        rintro e w61 ⟨y1v, Ky1, rfl, y1, -, -, hb⟩
        have hs_w61 := hb.size
        replace P0 := P0.below hb
        replace P1 := P1.below hb
        replace W0 := W0.below hb
        replace AT := AT.below hb
        replace A0 := A0.below hb
        replace A1 := A1.below hb
        replace y0 := y0.below hb
        replace hB := tr hB hb (Nat.le_refl _)
        replace hbC := tr hbC hb (Nat.le_refl _)
        clear hb
        clear hS
        have hS : (fun w' => w'.cell? ⟨w.heap.size, 0, none⟩ = some (.string x0.durable) ∧ w'.cell? ⟨w.heap.size, 1, none⟩ = some (.string x0.pending) ∧ w'.cell? ⟨w.heap.size, 2, none⟩ = some (.int .i64 x0.count) ∧ w'.cell? ⟨w.heap.size + 1, 0, none⟩ = some (.string x1.command) ∧ w'.cell? ⟨w.heap.size + 1, 1, none⟩ = some (.string x1.reply)) w61 := ⟨P0.cells 0, P0.cells 1, P0.cells 2, P1.cells 0, P1.cells 1⟩
        refine hK.out _ _ (fun _ => hS) ?_
        clear hK K
        try simp only [Act.put, List.setIfInBounds_toArray, List.set_cons_zero, List.set_cons_succ]
        refine AnyX.only (i := 4) (o := _) (by kernel_rfl) (by rw [List.getElem?_toArray]; rfl) (fun K hK => ?_)
        go_simp
        go_at_call 28
        refine (hSp.out _ Ky0 _ Ky1 _ y0 y1).mono ?_
        rintro e w62 ⟨u0, GU0, rfl, U0, hb⟩
        have hs_w62 := hb.size
        replace P0 := P0.below hb
        replace P1 := P1.below hb
        replace W0 := W0.below hb
        replace AT := AT.below hb
        replace A0 := A0.below hb
        replace A1 := A1.below hb
        replace y0 := y0.below hb
        replace y1 := y1.below hb
        replace hB := tr hB hb (Nat.le_refl _)
        replace hbC := tr hbC hb (Nat.le_refl _)
        clear hb
        obtain ⟨_, rfl, rfl, m1, m2, -⟩ := U0
        clear y0 y1
        clear hS
        have hS : (fun w' => w'.cell? ⟨w.heap.size, 0, none⟩ = some (.string x0.durable) ∧ w'.cell? ⟨w.heap.size, 1, none⟩ = some (.string x0.pending) ∧ w'.cell? ⟨w.heap.size, 2, none⟩ = some (.int .i64 x0.count) ∧ w'.cell? ⟨w.heap.size + 1, 0, none⟩ = some (.string x1.command) ∧ w'.cell? ⟨w.heap.size + 1, 1, none⟩ = some (.string x1.reply)) w62 := ⟨P0.cells 0, P0.cells 1, P0.cells 2, P1.cells 0, P1.cells 1⟩
        refine hK.out _ _ (fun _ => hS) ?_
        clear hK K
        try simp only [Act.put, List.setIfInBounds_toArray, List.set_cons_zero, List.set_cons_succ]
        refine AnyX.take (i := 5) (oi := _) (v := ?_) (by rw [List.getElem?_toArray]; rfl) (by kernel_rfl) (by kernel_rfl) (by kernel_rfl) (by kernel_rfl) (by kernel_rfl) (by exact fun _ _ _ h => h) (Or.inl ⟨by rfl, ?_⟩) hS ?_
        rotate_left
        · (intro wS hSw; (try dsimp only at hSw); go_simp; try with_reducible rfl)
        try simp only [Act.put, List.setIfInBounds_toArray, List.set_cons_zero, List.set_cons_succ]
        refine AnyX.take (i := 6) (oi := _) (v := ?_) (by rw [List.getElem?_toArray]; rfl) (by kernel_rfl) (by kernel_rfl) (by kernel_rfl) (by kernel_rfl) (by kernel_rfl) (by exact fun _ _ _ h => h) (Or.inl ⟨by rfl, ?_⟩) hS ?_
        rotate_left
        · (intro wS hSw; (try dsimp only at hSw); go_simp; try with_reducible rfl)
        try simp only [Act.put, List.setIfInBounds_toArray, List.set_cons_zero, List.set_cons_succ]
        refine AnyX.take (i := 7) (oi := _) (v := ?_) (by rw [List.getElem?_toArray]; rfl) (by kernel_rfl) (by kernel_rfl) (by kernel_rfl) (by kernel_rfl) (by kernel_rfl) (by exact fun _ _ _ h => h) (Or.inl ⟨by rfl, ?_⟩) hS ?_
        rotate_left
        · (intro wS hSw; (try dsimp only at hSw); go_simp; try with_reducible rfl)
        try simp only [Act.put, List.setIfInBounds_toArray, List.set_cons_zero, List.set_cons_succ]
        refine AnyX.only (i := 9) (o := _) (by kernel_rfl) (by rw [List.getElem?_toArray]; rfl) (fun K hK => ?_)
        have c_P0 := P0.cells; have f_P0 := P0.frozens
        have c_P1 := P1.cells; have f_P1 := P1.frozens
        have c_W0 := W0.cells; have f_W0 := W0.frozens
        go_simp
        clear c_P0 f_P0 c_P1 f_P1 c_W0 f_W0
        have n_hbC : Below w3.heap.size w3 (((w62.setCell ⟨w52.heap.size, 0, none⟩ (.string r0.durable)).setCell ⟨w52.heap.size, 1, none⟩ (.string r0.pending)).setCell ⟨w52.heap.size, 2, none⟩ (.int .i64 r0.count)) := by
          repeat refine Below.setCell ?_ (by simp <;> omega) _
          exact hbC
        clear hbC
        have n_P0 := P0.keep (show (((w62.setCell ⟨w52.heap.size, 0, none⟩ (.string r0.durable)).setCell ⟨w52.heap.size, 1, none⟩ (.string r0.pending)).setCell ⟨w52.heap.size, 2, none⟩ (.int .i64 r0.count)).heap[_]? = _ from by repeat rw [Below.heap_setCell _ _ _ _ (by simp <;> omega)])
        have n_P1 := P1.keep (show (((w62.setCell ⟨w52.heap.size, 0, none⟩ (.string r0.durable)).setCell ⟨w52.heap.size, 1, none⟩ (.string r0.pending)).setCell ⟨w52.heap.size, 2, none⟩ (.int .i64 r0.count)).heap[_]? = _ from by repeat rw [Below.heap_setCell _ _ _ _ (by simp <;> omega)])
        have n_W0 : Row (((w62.setCell ⟨w52.heap.size, 0, none⟩ (.string r0.durable)).setCell ⟨w52.heap.size, 1, none⟩ (.string r0.pending)).setCell ⟨w52.heap.size, 2, none⟩ (.int .i64 r0.count)) (w52.heap.size) 31 [.string r0.durable, .string r0.pending, .int .i64 r0.count] := by simpa using (((W0.set 0 (.string r0.durable)).set 1 (.string r0.pending)).set 2 (.int .i64 r0.count))
        have n_AT := AT.frameA (w' := (((w62.setCell ⟨w52.heap.size, 0, none⟩ (.string r0.durable)).setCell ⟨w52.heap.size, 1, none⟩ (.string r0.pending)).setCell ⟨w52.heap.size, 2, none⟩ (.int .i64 r0.count))) fun b hb => by
          have h6 := lAT b hb
          repeat rw [Below.heap_setCell _ _ _ _ (by simp <;> omega)]
        have n_A0 := A0.frameA (w' := (((w62.setCell ⟨w52.heap.size, 0, none⟩ (.string r0.durable)).setCell ⟨w52.heap.size, 1, none⟩ (.string r0.pending)).setCell ⟨w52.heap.size, 2, none⟩ (.int .i64 r0.count))) fun b hb => by
          have h6 := lA0 b hb
          repeat rw [Below.heap_setCell _ _ _ _ (by simp <;> omega)]
        have n_A1 := A1.frameA (w' := (((w62.setCell ⟨w52.heap.size, 0, none⟩ (.string r0.durable)).setCell ⟨w52.heap.size, 1, none⟩ (.string r0.pending)).setCell ⟨w52.heap.size, 2, none⟩ (.int .i64 r0.count))) fun b hb => by
          have h6 := lA1 b hb
          repeat rw [Below.heap_setCell _ _ _ _ (by simp <;> omega)]
        have n_hB : Below w.heap.size w (((w62.setCell ⟨w52.heap.size, 0, none⟩ (.string r0.durable)).setCell ⟨w52.heap.size, 1, none⟩ (.string r0.pending)).setCell ⟨w52.heap.size, 2, none⟩ (.int .i64 r0.count)) := by
          repeat refine Below.setCell ?_ (by simp <;> omega) _
          exact hB
        clear hB P0 P1 W0 AT A0 A1
        have hs_w63 : w62.heap.size ≤ (((w62.setCell ⟨w52.heap.size, 0, none⟩ (.string r0.durable)).setCell ⟨w52.heap.size, 1, none⟩ (.string r0.pending)).setCell ⟨w52.heap.size, 2, none⟩ (.int .i64 r0.count)).heap.size := by simp
        generalize (((w62.setCell ⟨w52.heap.size, 0, none⟩ (.string r0.durable)).setCell ⟨w52.heap.size, 1, none⟩ (.string r0.pending)).setCell ⟨w52.heap.size, 2, none⟩ (.int .i64 r0.count)) = w63 at *
        have hB := n_hB; clear n_hB
        have P0 := n_P0; clear n_P0
        have P1 := n_P1; clear n_P1
        have W0 := n_W0; clear n_W0
        have AT := n_AT; clear n_AT
        have A0 := n_A0; clear n_A0
        have A1 := n_A1; clear n_A1
        have hbC := n_hbC; clear n_hbC
        clear hS
        have hS : (fun w' => w'.cell? ⟨w.heap.size, 0, none⟩ = some (.string x0.durable) ∧ w'.cell? ⟨w.heap.size, 1, none⟩ = some (.string x0.pending) ∧ w'.cell? ⟨w.heap.size, 2, none⟩ = some (.int .i64 x0.count) ∧ w'.cell? ⟨w.heap.size + 1, 0, none⟩ = some (.string x1.command) ∧ w'.cell? ⟨w.heap.size + 1, 1, none⟩ = some (.string x1.reply)) w63 := ⟨P0.cells 0, P0.cells 1, P0.cells 2, P1.cells 0, P1.cells 1⟩
        refine hK.out _ _ (fun _ => hS) ?_
        clear hK K
        try simp only [Act.put, List.setIfInBounds_toArray, List.set_cons_zero, List.set_cons_succ]
        refine AnyX.only (i := 10) (o := _) (by kernel_rfl) (by rw [List.getElem?_toArray]; rfl) (fun K hK => ?_)
        try go_simp
        clear hS
        have hS : (fun w' => w'.cell? ⟨w.heap.size, 0, none⟩ = some (.string x0.durable) ∧ w'.cell? ⟨w.heap.size, 1, none⟩ = some (.string x0.pending) ∧ w'.cell? ⟨w.heap.size, 2, none⟩ = some (.int .i64 x0.count) ∧ w'.cell? ⟨w.heap.size + 1, 0, none⟩ = some (.string x1.command) ∧ w'.cell? ⟨w.heap.size + 1, 1, none⟩ = some (.string x1.reply)) w63 := ⟨P0.cells 0, P0.cells 1, P0.cells 2, P1.cells 0, P1.cells 1⟩
        refine hK.out _ _ (fun _ => hS) ?_
        clear hK K
        try simp only [Act.put, List.setIfInBounds_toArray, List.set_cons_zero, List.set_cons_succ]
        refine AnyX.done (by kernel_rfl) ?_ _
        (try clear hS)
        go_wp2_with fail
        go_meet
        exact ⟨w52.heap.size, rfl, rfl, W0, by omega, m1, m2, hbC⟩
    · go_simp
      have al : Below w51.heap.size w51 (w51.alloc (.cells #[.string ⟨#[]⟩, .string ⟨#[]⟩, .int .i64 0] 31)) := by
        repeat refine Below.alloc ?_ (by simp <;> omega) _
        exact Below.refl _ _
      have n_W0 := Row.made w51 31 [.string ⟨#[]⟩, .string ⟨#[]⟩, .int .i64 0]
      have hs_w64 : w51.heap.size < (w51.alloc (.cells #[.string ⟨#[]⟩, .string ⟨#[]⟩, .int .i64 0] 31)).heap.size := by simp
      replace P0 := P0.below al
      replace P1 := P1.below al
      replace AT := AT.below al
      replace A0 := A0.below al
      replace A1 := A1.below al
      replace hB := tr hB al (Nat.le_refl _)
      replace hbC := tr hbC al (Nat.le_refl _)
      generalize (w51.alloc (.cells #[.string ⟨#[]⟩, .string ⟨#[]⟩, .int .i64 0] 31)) = w64 at *
      have W0 := n_W0; clear n_W0
      clear al
      clear hS
      have hS : (fun w' => w'.cell? ⟨w.heap.size, 0, none⟩ = some (.string x0.durable) ∧ w'.cell? ⟨w.heap.size, 1, none⟩ = some (.string x0.pending) ∧ w'.cell? ⟨w.heap.size, 2, none⟩ = some (.int .i64 x0.count) ∧ w'.cell? ⟨w.heap.size + 1, 0, none⟩ = some (.string x1.command) ∧ w'.cell? ⟨w.heap.size + 1, 1, none⟩ = some (.string x1.reply)) w64 := ⟨P0.cells 0, P0.cells 1, P0.cells 2, P1.cells 0, P1.cells 1⟩
      refine hK.out _ _ (fun _ => hS) ?_
      clear hK K
      try simp only [Act.put, List.setIfInBounds_toArray, List.set_cons_zero, List.set_cons_succ]
      refine AnyX.only (i := 1) (o := _) (by kernel_rfl) (by rw [List.getElem?_toArray]; rfl) (fun K hK => ?_)
      go_simp
      go_at_call 22
      refine (toLog_c _ x0 F0 _ A0 hw0).mono ?_
      rintro e w65 ⟨y0v, Ky0, rfl, y0, -, -, hb⟩
      have hs_w65 := hb.size
      replace P0 := P0.below hb
      replace P1 := P1.below hb
      replace W0 := W0.below hb
      replace AT := AT.below hb
      replace A0 := A0.below hb
      replace A1 := A1.below hb
      replace hB := tr hB hb (Nat.le_refl _)
      replace hbC := tr hbC hb (Nat.le_refl _)
      clear hb
      clear hS
      have hS : (fun w' => w'.cell? ⟨w.heap.size, 0, none⟩ = some (.string x0.durable) ∧ w'.cell? ⟨w.heap.size, 1, none⟩ = some (.string x0.pending) ∧ w'.cell? ⟨w.heap.size, 2, none⟩ = some (.int .i64 x0.count) ∧ w'.cell? ⟨w.heap.size + 1, 0, none⟩ = some (.string x1.command) ∧ w'.cell? ⟨w.heap.size + 1, 1, none⟩ = some (.string x1.reply)) w65 := ⟨P0.cells 0, P0.cells 1, P0.cells 2, P1.cells 0, P1.cells 1⟩
      refine hK.out _ _ (fun _ => hS) ?_
      clear hK K
      try simp only [Act.put, List.setIfInBounds_toArray, List.set_cons_zero, List.set_cons_succ]
      refine AnyX.only (i := 3) (o := _) (by kernel_rfl) (by rw [List.getElem?_toArray]; rfl) (fun K hK => ?_)
      go_simp
      go_at_call 15
      refine (toLogRecord_c _ x1 F1 _ A1 hw1).mono ?_
      rintro e w66 ⟨y1v, Ky1, rfl, y1, -, -, hb⟩
      have hs_w66 := hb.size
      replace P0 := P0.below hb
      replace P1 := P1.below hb
      replace W0 := W0.below hb
      replace AT := AT.below hb
      replace A0 := A0.below hb
      replace A1 := A1.below hb
      replace y0 := y0.below hb
      replace hB := tr hB hb (Nat.le_refl _)
      replace hbC := tr hbC hb (Nat.le_refl _)
      clear hb
      clear hS
      have hS : (fun w' => w'.cell? ⟨w.heap.size, 0, none⟩ = some (.string x0.durable) ∧ w'.cell? ⟨w.heap.size, 1, none⟩ = some (.string x0.pending) ∧ w'.cell? ⟨w.heap.size, 2, none⟩ = some (.int .i64 x0.count) ∧ w'.cell? ⟨w.heap.size + 1, 0, none⟩ = some (.string x1.command) ∧ w'.cell? ⟨w.heap.size + 1, 1, none⟩ = some (.string x1.reply)) w66 := ⟨P0.cells 0, P0.cells 1, P0.cells 2, P1.cells 0, P1.cells 1⟩
      refine hK.out _ _ (fun _ => hS) ?_
      clear hK K
      try simp only [Act.put, List.setIfInBounds_toArray, List.set_cons_zero, List.set_cons_succ]
      refine AnyX.only (i := 4) (o := _) (by kernel_rfl) (by rw [List.getElem?_toArray]; rfl) (fun K hK => ?_)
      go_simp
      go_at_call 28
      refine (hSp.out _ Ky0 _ Ky1 _ y0 y1).mono ?_
      rintro e w67 ⟨u0, GU0, rfl, U0, hb⟩
      have hs_w67 := hb.size
      replace P0 := P0.below hb
      replace P1 := P1.below hb
      replace W0 := W0.below hb
      replace AT := AT.below hb
      replace A0 := A0.below hb
      replace A1 := A1.below hb
      replace y0 := y0.below hb
      replace y1 := y1.below hb
      replace hB := tr hB hb (Nat.le_refl _)
      replace hbC := tr hbC hb (Nat.le_refl _)
      clear hb
      obtain ⟨_, rfl, rfl, m1, m2, -⟩ := U0
      clear y0 y1
      clear hS
      have hS : (fun w' => w'.cell? ⟨w.heap.size, 0, none⟩ = some (.string x0.durable) ∧ w'.cell? ⟨w.heap.size, 1, none⟩ = some (.string x0.pending) ∧ w'.cell? ⟨w.heap.size, 2, none⟩ = some (.int .i64 x0.count) ∧ w'.cell? ⟨w.heap.size + 1, 0, none⟩ = some (.string x1.command) ∧ w'.cell? ⟨w.heap.size + 1, 1, none⟩ = some (.string x1.reply)) w67 := ⟨P0.cells 0, P0.cells 1, P0.cells 2, P1.cells 0, P1.cells 1⟩
      refine hK.out _ _ (fun _ => hS) ?_
      clear hK K
      try simp only [Act.put, List.setIfInBounds_toArray, List.set_cons_zero, List.set_cons_succ]
      refine AnyX.take (i := 5) (oi := _) (v := ?_) (by rw [List.getElem?_toArray]; rfl) (by kernel_rfl) (by kernel_rfl) (by kernel_rfl) (by kernel_rfl) (by kernel_rfl) (by exact fun _ _ _ h => h) (Or.inl ⟨by rfl, ?_⟩) hS ?_
      rotate_left
      · (intro wS hSw; (try dsimp only at hSw); go_simp; try with_reducible rfl)
      try simp only [Act.put, List.setIfInBounds_toArray, List.set_cons_zero, List.set_cons_succ]
      refine AnyX.take (i := 6) (oi := _) (v := ?_) (by rw [List.getElem?_toArray]; rfl) (by kernel_rfl) (by kernel_rfl) (by kernel_rfl) (by kernel_rfl) (by kernel_rfl) (by exact fun _ _ _ h => h) (Or.inl ⟨by rfl, ?_⟩) hS ?_
      rotate_left
      · (intro wS hSw; (try dsimp only at hSw); go_simp; try with_reducible rfl)
      try simp only [Act.put, List.setIfInBounds_toArray, List.set_cons_zero, List.set_cons_succ]
      refine AnyX.take (i := 7) (oi := _) (v := ?_) (by rw [List.getElem?_toArray]; rfl) (by kernel_rfl) (by kernel_rfl) (by kernel_rfl) (by kernel_rfl) (by kernel_rfl) (by exact fun _ _ _ h => h) (Or.inl ⟨by rfl, ?_⟩) hS ?_
      rotate_left
      · (intro wS hSw; (try dsimp only at hSw); go_simp; try with_reducible rfl)
      try simp only [Act.put, List.setIfInBounds_toArray, List.set_cons_zero, List.set_cons_succ]
      refine AnyX.only (i := 9) (o := _) (by kernel_rfl) (by rw [List.getElem?_toArray]; rfl) (fun K hK => ?_)
      have c_P0 := P0.cells; have f_P0 := P0.frozens
      have c_P1 := P1.cells; have f_P1 := P1.frozens
      have c_W0 := W0.cells; have f_W0 := W0.frozens
      go_simp
      clear c_P0 f_P0 c_P1 f_P1 c_W0 f_W0
      have n_hbC : Below w3.heap.size w3 (((w67.setCell ⟨w51.heap.size, 0, none⟩ (.string r0.durable)).setCell ⟨w51.heap.size, 1, none⟩ (.string r0.pending)).setCell ⟨w51.heap.size, 2, none⟩ (.int .i64 r0.count)) := by
        repeat refine Below.setCell ?_ (by simp <;> omega) _
        exact hbC
      clear hbC
      have n_P0 := P0.keep (show (((w67.setCell ⟨w51.heap.size, 0, none⟩ (.string r0.durable)).setCell ⟨w51.heap.size, 1, none⟩ (.string r0.pending)).setCell ⟨w51.heap.size, 2, none⟩ (.int .i64 r0.count)).heap[_]? = _ from by repeat rw [Below.heap_setCell _ _ _ _ (by simp <;> omega)])
      have n_P1 := P1.keep (show (((w67.setCell ⟨w51.heap.size, 0, none⟩ (.string r0.durable)).setCell ⟨w51.heap.size, 1, none⟩ (.string r0.pending)).setCell ⟨w51.heap.size, 2, none⟩ (.int .i64 r0.count)).heap[_]? = _ from by repeat rw [Below.heap_setCell _ _ _ _ (by simp <;> omega)])
      have n_W0 : Row (((w67.setCell ⟨w51.heap.size, 0, none⟩ (.string r0.durable)).setCell ⟨w51.heap.size, 1, none⟩ (.string r0.pending)).setCell ⟨w51.heap.size, 2, none⟩ (.int .i64 r0.count)) (w51.heap.size) 31 [.string r0.durable, .string r0.pending, .int .i64 r0.count] := by simpa using (((W0.set 0 (.string r0.durable)).set 1 (.string r0.pending)).set 2 (.int .i64 r0.count))
      have n_AT := AT.frameA (w' := (((w67.setCell ⟨w51.heap.size, 0, none⟩ (.string r0.durable)).setCell ⟨w51.heap.size, 1, none⟩ (.string r0.pending)).setCell ⟨w51.heap.size, 2, none⟩ (.int .i64 r0.count))) fun b hb => by
        have h6 := lAT b hb
        repeat rw [Below.heap_setCell _ _ _ _ (by simp <;> omega)]
      have n_A0 := A0.frameA (w' := (((w67.setCell ⟨w51.heap.size, 0, none⟩ (.string r0.durable)).setCell ⟨w51.heap.size, 1, none⟩ (.string r0.pending)).setCell ⟨w51.heap.size, 2, none⟩ (.int .i64 r0.count))) fun b hb => by
        have h6 := lA0 b hb
        repeat rw [Below.heap_setCell _ _ _ _ (by simp <;> omega)]
      have n_A1 := A1.frameA (w' := (((w67.setCell ⟨w51.heap.size, 0, none⟩ (.string r0.durable)).setCell ⟨w51.heap.size, 1, none⟩ (.string r0.pending)).setCell ⟨w51.heap.size, 2, none⟩ (.int .i64 r0.count))) fun b hb => by
        have h6 := lA1 b hb
        repeat rw [Below.heap_setCell _ _ _ _ (by simp <;> omega)]
      have n_hB : Below w.heap.size w (((w67.setCell ⟨w51.heap.size, 0, none⟩ (.string r0.durable)).setCell ⟨w51.heap.size, 1, none⟩ (.string r0.pending)).setCell ⟨w51.heap.size, 2, none⟩ (.int .i64 r0.count)) := by
        repeat refine Below.setCell ?_ (by simp <;> omega) _
        exact hB
      clear hB P0 P1 W0 AT A0 A1
      have hs_w68 : w67.heap.size ≤ (((w67.setCell ⟨w51.heap.size, 0, none⟩ (.string r0.durable)).setCell ⟨w51.heap.size, 1, none⟩ (.string r0.pending)).setCell ⟨w51.heap.size, 2, none⟩ (.int .i64 r0.count)).heap.size := by simp
      generalize (((w67.setCell ⟨w51.heap.size, 0, none⟩ (.string r0.durable)).setCell ⟨w51.heap.size, 1, none⟩ (.string r0.pending)).setCell ⟨w51.heap.size, 2, none⟩ (.int .i64 r0.count)) = w68 at *
      have hB := n_hB; clear n_hB
      have P0 := n_P0; clear n_P0
      have P1 := n_P1; clear n_P1
      have W0 := n_W0; clear n_W0
      have AT := n_AT; clear n_AT
      have A0 := n_A0; clear n_A0
      have A1 := n_A1; clear n_A1
      have hbC := n_hbC; clear n_hbC
      clear hS
      have hS : (fun w' => w'.cell? ⟨w.heap.size, 0, none⟩ = some (.string x0.durable) ∧ w'.cell? ⟨w.heap.size, 1, none⟩ = some (.string x0.pending) ∧ w'.cell? ⟨w.heap.size, 2, none⟩ = some (.int .i64 x0.count) ∧ w'.cell? ⟨w.heap.size + 1, 0, none⟩ = some (.string x1.command) ∧ w'.cell? ⟨w.heap.size + 1, 1, none⟩ = some (.string x1.reply)) w68 := ⟨P0.cells 0, P0.cells 1, P0.cells 2, P1.cells 0, P1.cells 1⟩
      refine hK.out _ _ (fun _ => hS) ?_
      clear hK K
      try simp only [Act.put, List.setIfInBounds_toArray, List.set_cons_zero, List.set_cons_succ]
      refine AnyX.only (i := 10) (o := _) (by kernel_rfl) (by rw [List.getElem?_toArray]; rfl) (fun K hK => ?_)
      try go_simp
      clear hS
      have hS : (fun w' => w'.cell? ⟨w.heap.size, 0, none⟩ = some (.string x0.durable) ∧ w'.cell? ⟨w.heap.size, 1, none⟩ = some (.string x0.pending) ∧ w'.cell? ⟨w.heap.size, 2, none⟩ = some (.int .i64 x0.count) ∧ w'.cell? ⟨w.heap.size + 1, 0, none⟩ = some (.string x1.command) ∧ w'.cell? ⟨w.heap.size + 1, 1, none⟩ = some (.string x1.reply)) w68 := ⟨P0.cells 0, P0.cells 1, P0.cells 2, P1.cells 0, P1.cells 1⟩
      refine hK.out _ _ (fun _ => hS) ?_
      clear hK K
      try simp only [Act.put, List.setIfInBounds_toArray, List.set_cons_zero, List.set_cons_succ]
      refine AnyX.done (by kernel_rfl) ?_ _
      (try clear hS)
      go_wp2_with fail
      go_meet
      exact ⟨w51.heap.size, rfl, rfl, W0, by omega, m1, m2, hbC⟩
  obtain ⟨bW0, rfl, rfl, W0, hbW0, mW01, mW02, hb⟩ := hcut
  generalize wc = w70 at *
  have hs_w70 := hb.size
  have W0 := W0
  replace P0 := P0.below hb
  replace P1 := P1.below hb
  replace AT := AT.below hb
  replace A0 := A0.below hb
  replace A1 := A1.below hb
  replace hB := tr hB hb (Nat.le_refl _)
  clear hb
  have l_W0 : bW0 < w70.heap.size := World.block_lt_of_cell? _ (a := ⟨bW0, 0, none⟩) (W0.cells 0)
  have c_P0 := P0.cells; have f_P0 := P0.frozens
  have c_P1 := P1.cells; have f_P1 := P1.frozens
  have c_W0 := W0.cells; have f_W0 := W0.frozens
  go_wp2_with fail
  clear c_P0 f_P0 c_P1 f_P1 c_W0 f_W0
  go_cut [8, 9] (fun sa sb wx => ∃ b : Nat, sa = .pointer (some ⟨b, 0, none⟩) ∧ sb = .int .i64 r1 ∧ Row wx b 31 [.string r0.durable, .string r0.pending, .int .i64 r0.count] ∧ w70.heap.size ≤ b ∧ r0.durable.size ≤ maxLen ∧ r0.pending.size ≤ maxLen ∧ Below w70.heap.size w70 wx)
  · have hbC := Below.refl w70.heap.size w70
    refine AnyX.start (S := (fun w' => w'.cell? ⟨w.heap.size, 0, none⟩ = some (.string x0.durable) ∧ w'.cell? ⟨w.heap.size, 1, none⟩ = some (.string x0.pending) ∧ w'.cell? ⟨w.heap.size, 2, none⟩ = some (.int .i64 x0.count) ∧ w'.cell? ⟨w.heap.size + 1, 0, none⟩ = some (.string x1.command) ∧ w'.cell? ⟨w.heap.size + 1, 1, none⟩ = some (.string x1.reply))) (X := (fun _ => false)) (by kernel_rfl) ?_
    have al : Below w70.heap.size w70 w70.drew := belowDrewN (Below.refl _ _) 1
    have hs_w71 := al.size
    replace P0 := P0.below al
    replace P1 := P1.below al
    replace W0 := W0.below al
    replace AT := AT.below al
    replace A0 := A0.below al
    replace A1 := A1.below al
    replace hB := tr hB al (Nat.le_refl _)
    replace hbC := tr hbC al (Nat.le_refl _)
    generalize w70.drew = w71 at *
    clear al
    have hS : (fun w' => w'.cell? ⟨w.heap.size, 0, none⟩ = some (.string x0.durable) ∧ w'.cell? ⟨w.heap.size, 1, none⟩ = some (.string x0.pending) ∧ w'.cell? ⟨w.heap.size, 2, none⟩ = some (.int .i64 x0.count) ∧ w'.cell? ⟨w.heap.size + 1, 0, none⟩ = some (.string x1.command) ∧ w'.cell? ⟨w.heap.size + 1, 1, none⟩ = some (.string x1.reply)) w71 := ⟨P0.cells 0, P0.cells 1, P0.cells 2, P1.cells 0, P1.cells 1⟩
    refine AnyX.take (i := 0) (oi := _) (v := ?_) (by rw [List.getElem?_toArray]; rfl) (by kernel_rfl) (by kernel_rfl) (by kernel_rfl) (by kernel_rfl) (by kernel_rfl) (by exact fun _ _ _ h => h) (Or.inl ⟨by rfl, ?_⟩) hS ?_
    rotate_left
    · (intro wS hSw; (try dsimp only at hSw); go_simp; try with_reducible rfl)
    try simp only [Act.put, List.setIfInBounds_toArray, List.set_cons_zero, List.set_cons_succ]
    refine AnyX.take (i := 2) (oi := _) (v := ?_) (by rw [List.getElem?_toArray]; rfl) (by kernel_rfl) (by kernel_rfl) (by kernel_rfl) (by kernel_rfl) (by kernel_rfl) (by exact fun _ _ _ h => h) (Or.inl ⟨by rfl, ?_⟩) hS ?_
    rotate_left
    · (intro wS hSw; (try dsimp only at hSw); go_simp; try with_reducible rfl)
    try simp only [Act.put, List.setIfInBounds_toArray, List.set_cons_zero, List.set_cons_succ]
    refine AnyX.two (i := 1) (j := 8) (oi := _) (oj := _) (by kernel_rfl) (by rw [List.getElem?_toArray]; rfl) (by rw [List.getElem?_toArray]; rfl) (fun K hK => ?_) (fun K hK => ?_)
    · go_simp
      go_at_call 22
      refine (toLog_c _ x0 F0 _ A0 hw0).mono ?_
      rintro e w72 ⟨y0v, Ky0, rfl, y0, -, -, hb⟩
      have hs_w72 := hb.size
      replace P0 := P0.below hb
      replace P1 := P1.below hb
      replace W0 := W0.below hb
      replace AT := AT.below hb
      replace A0 := A0.below hb
      replace A1 := A1.below hb
      replace hB := tr hB hb (Nat.le_refl _)
      replace hbC := tr hbC hb (Nat.le_refl _)
      clear hb
      clear hS
      have hS : (fun w' => w'.cell? ⟨w.heap.size, 0, none⟩ = some (.string x0.durable) ∧ w'.cell? ⟨w.heap.size, 1, none⟩ = some (.string x0.pending) ∧ w'.cell? ⟨w.heap.size, 2, none⟩ = some (.int .i64 x0.count) ∧ w'.cell? ⟨w.heap.size + 1, 0, none⟩ = some (.string x1.command) ∧ w'.cell? ⟨w.heap.size + 1, 1, none⟩ = some (.string x1.reply)) w72 := ⟨P0.cells 0, P0.cells 1, P0.cells 2, P1.cells 0, P1.cells 1⟩
      refine hK.out _ _ (fun _ => hS) ?_
      clear hK K
      try simp only [Act.put, List.setIfInBounds_toArray, List.set_cons_zero, List.set_cons_succ]
      refine AnyX.two (i := 3) (j := 8) (oi := _) (oj := _) (by kernel_rfl) (by rw [List.getElem?_toArray]; rfl) (by rw [List.getElem?_toArray]; rfl) (fun K hK => ?_) (fun K hK => ?_)
      · go_simp
        go_at_call 15
        refine (toLogRecord_c _ x1 F1 _ A1 hw1).mono ?_
        rintro e w73 ⟨y1v, Ky1, rfl, y1, -, -, hb⟩
        have hs_w73 := hb.size
        replace P0 := P0.below hb
        replace P1 := P1.below hb
        replace W0 := W0.below hb
        replace AT := AT.below hb
        replace A0 := A0.below hb
        replace A1 := A1.below hb
        replace y0 := y0.below hb
        replace hB := tr hB hb (Nat.le_refl _)
        replace hbC := tr hbC hb (Nat.le_refl _)
        clear hb
        clear hS
        have hS : (fun w' => w'.cell? ⟨w.heap.size, 0, none⟩ = some (.string x0.durable) ∧ w'.cell? ⟨w.heap.size, 1, none⟩ = some (.string x0.pending) ∧ w'.cell? ⟨w.heap.size, 2, none⟩ = some (.int .i64 x0.count) ∧ w'.cell? ⟨w.heap.size + 1, 0, none⟩ = some (.string x1.command) ∧ w'.cell? ⟨w.heap.size + 1, 1, none⟩ = some (.string x1.reply)) w73 := ⟨P0.cells 0, P0.cells 1, P0.cells 2, P1.cells 0, P1.cells 1⟩
        refine hK.out _ _ (fun _ => hS) ?_
        clear hK K
        try simp only [Act.put, List.setIfInBounds_toArray, List.set_cons_zero, List.set_cons_succ]
        refine AnyX.two (i := 4) (j := 8) (oi := _) (oj := _) (by kernel_rfl) (by rw [List.getElem?_toArray]; rfl) (by rw [List.getElem?_toArray]; rfl) (fun K hK => ?_) (fun K hK => ?_)
        · go_simp
          go_at_call 29
          refine (hI.out _ Ky0 _ Ky1 _ y0 y1 AT).mono ?_
          rintro e w74 ⟨u0, GU0, rfl, U0, -, -, hb⟩
          have hs_w74 := hb.size
          replace P0 := P0.below hb
          replace P1 := P1.below hb
          replace W0 := W0.below hb
          replace AT := AT.below hb
          replace A0 := A0.below hb
          replace A1 := A1.below hb
          replace y0 := y0.below hb
          replace y1 := y1.below hb
          replace hB := tr hB hb (Nat.le_refl _)
          replace hbC := tr hbC hb (Nat.le_refl _)
          clear hb
          obtain ⟨_, rfl, rfl, m1, m2, -⟩ := U0
          clear y0 y1
          clear hS
          have hS : (fun w' => w'.cell? ⟨w.heap.size, 0, none⟩ = some (.string x0.durable) ∧ w'.cell? ⟨w.heap.size, 1, none⟩ = some (.string x0.pending) ∧ w'.cell? ⟨w.heap.size, 2, none⟩ = some (.int .i64 x0.count) ∧ w'.cell? ⟨w.heap.size + 1, 0, none⟩ = some (.string x1.command) ∧ w'.cell? ⟨w.heap.size + 1, 1, none⟩ = some (.string x1.reply)) w74 := ⟨P0.cells 0, P0.cells 1, P0.cells 2, P1.cells 0, P1.cells 1⟩
          refine hK.out _ _ (fun _ => hS) ?_
          clear hK K
          try simp only [Act.put, List.setIfInBounds_toArray, List.set_cons_zero, List.set_cons_succ]
          refine AnyX.take (i := 5) (oi := _) (v := ?_) (by rw [List.getElem?_toArray]; rfl) (by kernel_rfl) (by kernel_rfl) (by kernel_rfl) (by kernel_rfl) (by kernel_rfl) (by exact fun _ _ _ h => h) (Or.inl ⟨by rfl, ?_⟩) hS ?_
          rotate_left
          · (intro wS hSw; (try dsimp only at hSw); go_simp; try with_reducible rfl)
          try simp only [Act.put, List.setIfInBounds_toArray, List.set_cons_zero, List.set_cons_succ]
          refine AnyX.take (i := 6) (oi := _) (v := ?_) (by rw [List.getElem?_toArray]; rfl) (by kernel_rfl) (by kernel_rfl) (by kernel_rfl) (by kernel_rfl) (by kernel_rfl) (by exact fun _ _ _ h => h) (Or.inl ⟨by rfl, ?_⟩) hS ?_
          rotate_left
          · (intro wS hSw; (try dsimp only at hSw); go_simp; try with_reducible rfl)
          try simp only [Act.put, List.setIfInBounds_toArray, List.set_cons_zero, List.set_cons_succ]
          refine AnyX.take (i := 7) (oi := _) (v := ?_) (by rw [List.getElem?_toArray]; rfl) (by kernel_rfl) (by kernel_rfl) (by kernel_rfl) (by kernel_rfl) (by kernel_rfl) (by exact fun _ _ _ h => h) (Or.inl ⟨by rfl, ?_⟩) hS ?_
          rotate_left
          · (intro wS hSw; (try dsimp only at hSw); go_simp; try with_reducible rfl)
          try simp only [Act.put, List.setIfInBounds_toArray, List.set_cons_zero, List.set_cons_succ]
          refine AnyX.only (i := 8) (o := _) (by kernel_rfl) (by rw [List.getElem?_toArray]; rfl) (fun K hK => ?_)
          go_simp
          have al : Below w74.heap.size w74 (w74.alloc (.cells #[.string ⟨#[]⟩, .string ⟨#[]⟩, .int .i64 0] 31)) := by
            repeat refine Below.alloc ?_ (by simp <;> omega) _
            exact Below.refl _ _
          have n_Q0 := Row.made w74 31 [.string ⟨#[]⟩, .string ⟨#[]⟩, .int .i64 0]
          have hs_w75 : w74.heap.size < (w74.alloc (.cells #[.string ⟨#[]⟩, .string ⟨#[]⟩, .int .i64 0] 31)).heap.size := by simp
          replace P0 := P0.below al
          replace P1 := P1.below al
          replace W0 := W0.below al
          replace AT := AT.below al
          replace A0 := A0.below al
          replace A1 := A1.below al
          replace hB := tr hB al (Nat.le_refl _)
          replace hbC := tr hbC al (Nat.le_refl _)
          generalize (w74.alloc (.cells #[.string ⟨#[]⟩, .string ⟨#[]⟩, .int .i64 0] 31)) = w75 at *
          have Q0 := n_Q0; clear n_Q0
          clear al
          clear hS
          have hS : (fun w' => w'.cell? ⟨w.heap.size, 0, none⟩ = some (.string x0.durable) ∧ w'.cell? ⟨w.heap.size, 1, none⟩ = some (.string x0.pending) ∧ w'.cell? ⟨w.heap.size, 2, none⟩ = some (.int .i64 x0.count) ∧ w'.cell? ⟨w.heap.size + 1, 0, none⟩ = some (.string x1.command) ∧ w'.cell? ⟨w.heap.size + 1, 1, none⟩ = some (.string x1.reply)) w75 := ⟨P0.cells 0, P0.cells 1, P0.cells 2, P1.cells 0, P1.cells 1⟩
          refine hK.out _ _ (fun _ => hS) ?_
          clear hK K
          try simp only [Act.put, List.setIfInBounds_toArray, List.set_cons_zero, List.set_cons_succ]
          refine AnyX.only (i := 9) (o := _) (by kernel_rfl) (by rw [List.getElem?_toArray]; rfl) (fun K hK => ?_)
          have c_P0 := P0.cells; have f_P0 := P0.frozens
          have c_P1 := P1.cells; have f_P1 := P1.frozens
          have c_W0 := W0.cells; have f_W0 := W0.frozens
          have c_Q0 := Q0.cells; have f_Q0 := Q0.frozens
          go_simp
          clear c_P0 f_P0 c_P1 f_P1 c_W0 f_W0 c_Q0 f_Q0
          have n_hbC : Below w70.heap.size w70 (((w75.setCell ⟨w74.heap.size, 0, none⟩ (.string r0.durable)).setCell ⟨w74.heap.size, 1, none⟩ (.string r0.pending)).setCell ⟨w74.heap.size, 2, none⟩ (.int .i64 r0.count)) := by
            repeat refine Below.setCell ?_ (by simp <;> omega) _
            exact hbC
          clear hbC
          have n_P0 := P0.keep (show (((w75.setCell ⟨w74.heap.size, 0, none⟩ (.string r0.durable)).setCell ⟨w74.heap.size, 1, none⟩ (.string r0.pending)).setCell ⟨w74.heap.size, 2, none⟩ (.int .i64 r0.count)).heap[_]? = _ from by repeat rw [Below.heap_setCell _ _ _ _ (by simp <;> omega)])
          have n_P1 := P1.keep (show (((w75.setCell ⟨w74.heap.size, 0, none⟩ (.string r0.durable)).setCell ⟨w74.heap.size, 1, none⟩ (.string r0.pending)).setCell ⟨w74.heap.size, 2, none⟩ (.int .i64 r0.count)).heap[_]? = _ from by repeat rw [Below.heap_setCell _ _ _ _ (by simp <;> omega)])
          have n_W0 := W0.keep (show (((w75.setCell ⟨w74.heap.size, 0, none⟩ (.string r0.durable)).setCell ⟨w74.heap.size, 1, none⟩ (.string r0.pending)).setCell ⟨w74.heap.size, 2, none⟩ (.int .i64 r0.count)).heap[_]? = _ from by repeat rw [Below.heap_setCell _ _ _ _ (by simp <;> omega)])
          have n_Q0 : Row (((w75.setCell ⟨w74.heap.size, 0, none⟩ (.string r0.durable)).setCell ⟨w74.heap.size, 1, none⟩ (.string r0.pending)).setCell ⟨w74.heap.size, 2, none⟩ (.int .i64 r0.count)) (w74.heap.size) 31 [.string r0.durable, .string r0.pending, .int .i64 r0.count] := by simpa using (((Q0.set 0 (.string r0.durable)).set 1 (.string r0.pending)).set 2 (.int .i64 r0.count))
          have n_AT := AT.frameA (w' := (((w75.setCell ⟨w74.heap.size, 0, none⟩ (.string r0.durable)).setCell ⟨w74.heap.size, 1, none⟩ (.string r0.pending)).setCell ⟨w74.heap.size, 2, none⟩ (.int .i64 r0.count))) fun b hb => by
            have h6 := lAT b hb
            repeat rw [Below.heap_setCell _ _ _ _ (by simp <;> omega)]
          have n_A0 := A0.frameA (w' := (((w75.setCell ⟨w74.heap.size, 0, none⟩ (.string r0.durable)).setCell ⟨w74.heap.size, 1, none⟩ (.string r0.pending)).setCell ⟨w74.heap.size, 2, none⟩ (.int .i64 r0.count))) fun b hb => by
            have h6 := lA0 b hb
            repeat rw [Below.heap_setCell _ _ _ _ (by simp <;> omega)]
          have n_A1 := A1.frameA (w' := (((w75.setCell ⟨w74.heap.size, 0, none⟩ (.string r0.durable)).setCell ⟨w74.heap.size, 1, none⟩ (.string r0.pending)).setCell ⟨w74.heap.size, 2, none⟩ (.int .i64 r0.count))) fun b hb => by
            have h6 := lA1 b hb
            repeat rw [Below.heap_setCell _ _ _ _ (by simp <;> omega)]
          have n_hB : Below w.heap.size w (((w75.setCell ⟨w74.heap.size, 0, none⟩ (.string r0.durable)).setCell ⟨w74.heap.size, 1, none⟩ (.string r0.pending)).setCell ⟨w74.heap.size, 2, none⟩ (.int .i64 r0.count)) := by
            repeat refine Below.setCell ?_ (by simp <;> omega) _
            exact hB
          clear hB P0 P1 W0 Q0 AT A0 A1
          have hs_w76 : w75.heap.size ≤ (((w75.setCell ⟨w74.heap.size, 0, none⟩ (.string r0.durable)).setCell ⟨w74.heap.size, 1, none⟩ (.string r0.pending)).setCell ⟨w74.heap.size, 2, none⟩ (.int .i64 r0.count)).heap.size := by simp
          generalize (((w75.setCell ⟨w74.heap.size, 0, none⟩ (.string r0.durable)).setCell ⟨w74.heap.size, 1, none⟩ (.string r0.pending)).setCell ⟨w74.heap.size, 2, none⟩ (.int .i64 r0.count)) = w76 at *
          have hB := n_hB; clear n_hB
          have P0 := n_P0; clear n_P0
          have P1 := n_P1; clear n_P1
          have W0 := n_W0; clear n_W0
          have Q0 := n_Q0; clear n_Q0
          have AT := n_AT; clear n_AT
          have A0 := n_A0; clear n_A0
          have A1 := n_A1; clear n_A1
          have hbC := n_hbC; clear n_hbC
          clear hS
          have hS : (fun w' => w'.cell? ⟨w.heap.size, 0, none⟩ = some (.string x0.durable) ∧ w'.cell? ⟨w.heap.size, 1, none⟩ = some (.string x0.pending) ∧ w'.cell? ⟨w.heap.size, 2, none⟩ = some (.int .i64 x0.count) ∧ w'.cell? ⟨w.heap.size + 1, 0, none⟩ = some (.string x1.command) ∧ w'.cell? ⟨w.heap.size + 1, 1, none⟩ = some (.string x1.reply)) w76 := ⟨P0.cells 0, P0.cells 1, P0.cells 2, P1.cells 0, P1.cells 1⟩
          refine hK.out _ _ (fun _ => hS) ?_
          clear hK K
          try simp only [Act.put, List.setIfInBounds_toArray, List.set_cons_zero, List.set_cons_succ]
          refine AnyX.only (i := 10) (o := _) (by kernel_rfl) (by rw [List.getElem?_toArray]; rfl) (fun K hK => ?_)
          try go_simp
          clear hS
          have hS : (fun w' => w'.cell? ⟨w.heap.size, 0, none⟩ = some (.string x0.durable) ∧ w'.cell? ⟨w.heap.size, 1, none⟩ = some (.string x0.pending) ∧ w'.cell? ⟨w.heap.size, 2, none⟩ = some (.int .i64 x0.count) ∧ w'.cell? ⟨w.heap.size + 1, 0, none⟩ = some (.string x1.command) ∧ w'.cell? ⟨w.heap.size + 1, 1, none⟩ = some (.string x1.reply)) w76 := ⟨P0.cells 0, P0.cells 1, P0.cells 2, P1.cells 0, P1.cells 1⟩
          refine hK.out _ _ (fun _ => hS) ?_
          clear hK K
          try simp only [Act.put, List.setIfInBounds_toArray, List.set_cons_zero, List.set_cons_succ]
          refine AnyX.done (by kernel_rfl) ?_ _
          (try clear hS)
          go_wp2_with fail
          go_meet
          exact ⟨w74.heap.size, rfl, rfl, Q0, by omega, m1, m2, hbC⟩
        · go_simp
          have al : Below w73.heap.size w73 (w73.alloc (.cells #[.string ⟨#[]⟩, .string ⟨#[]⟩, .int .i64 0] 31)) := by
            repeat refine Below.alloc ?_ (by simp <;> omega) _
            exact Below.refl _ _
          have n_Q0 := Row.made w73 31 [.string ⟨#[]⟩, .string ⟨#[]⟩, .int .i64 0]
          have hs_w77 : w73.heap.size < (w73.alloc (.cells #[.string ⟨#[]⟩, .string ⟨#[]⟩, .int .i64 0] 31)).heap.size := by simp
          replace P0 := P0.below al
          replace P1 := P1.below al
          replace W0 := W0.below al
          replace AT := AT.below al
          replace A0 := A0.below al
          replace A1 := A1.below al
          replace y0 := y0.below al
          replace y1 := y1.below al
          replace hB := tr hB al (Nat.le_refl _)
          replace hbC := tr hbC al (Nat.le_refl _)
          generalize (w73.alloc (.cells #[.string ⟨#[]⟩, .string ⟨#[]⟩, .int .i64 0] 31)) = w77 at *
          have Q0 := n_Q0; clear n_Q0
          clear al
          clear hS
          have hS : (fun w' => w'.cell? ⟨w.heap.size, 0, none⟩ = some (.string x0.durable) ∧ w'.cell? ⟨w.heap.size, 1, none⟩ = some (.string x0.pending) ∧ w'.cell? ⟨w.heap.size, 2, none⟩ = some (.int .i64 x0.count) ∧ w'.cell? ⟨w.heap.size + 1, 0, none⟩ = some (.string x1.command) ∧ w'.cell? ⟨w.heap.size + 1, 1, none⟩ = some (.string x1.reply)) w77 := ⟨P0.cells 0, P0.cells 1, P0.cells 2, P1.cells 0, P1.cells 1⟩
          refine hK.out _ _ (fun _ => hS) ?_
          clear hK K
          try simp only [Act.put, List.setIfInBounds_toArray, List.set_cons_zero, List.set_cons_succ]
          refine AnyX.only (i := 4) (o := _) (by kernel_rfl) (by rw [List.getElem?_toArray]; rfl) (fun K hK => ?_)
          go_simp
          go_at_call 29
          refine (hI.out _ Ky0 _ Ky1 _ y0 y1 AT).mono ?_
          rintro e w78 ⟨u0, GU0, rfl, U0, -, -, hb⟩
          have hs_w78 := hb.size
          replace P0 := P0.below hb
          replace P1 := P1.below hb
          replace W0 := W0.below hb
          replace Q0 := Q0.below hb
          replace AT := AT.below hb
          replace A0 := A0.below hb
          replace A1 := A1.below hb
          replace y0 := y0.below hb
          replace y1 := y1.below hb
          replace hB := tr hB hb (Nat.le_refl _)
          replace hbC := tr hbC hb (Nat.le_refl _)
          clear hb
          obtain ⟨_, rfl, rfl, m1, m2, -⟩ := U0
          clear y0 y1
          clear hS
          have hS : (fun w' => w'.cell? ⟨w.heap.size, 0, none⟩ = some (.string x0.durable) ∧ w'.cell? ⟨w.heap.size, 1, none⟩ = some (.string x0.pending) ∧ w'.cell? ⟨w.heap.size, 2, none⟩ = some (.int .i64 x0.count) ∧ w'.cell? ⟨w.heap.size + 1, 0, none⟩ = some (.string x1.command) ∧ w'.cell? ⟨w.heap.size + 1, 1, none⟩ = some (.string x1.reply)) w78 := ⟨P0.cells 0, P0.cells 1, P0.cells 2, P1.cells 0, P1.cells 1⟩
          refine hK.out _ _ (fun _ => hS) ?_
          clear hK K
          try simp only [Act.put, List.setIfInBounds_toArray, List.set_cons_zero, List.set_cons_succ]
          refine AnyX.take (i := 5) (oi := _) (v := ?_) (by rw [List.getElem?_toArray]; rfl) (by kernel_rfl) (by kernel_rfl) (by kernel_rfl) (by kernel_rfl) (by kernel_rfl) (by exact fun _ _ _ h => h) (Or.inl ⟨by rfl, ?_⟩) hS ?_
          rotate_left
          · (intro wS hSw; (try dsimp only at hSw); go_simp; try with_reducible rfl)
          try simp only [Act.put, List.setIfInBounds_toArray, List.set_cons_zero, List.set_cons_succ]
          refine AnyX.take (i := 6) (oi := _) (v := ?_) (by rw [List.getElem?_toArray]; rfl) (by kernel_rfl) (by kernel_rfl) (by kernel_rfl) (by kernel_rfl) (by kernel_rfl) (by exact fun _ _ _ h => h) (Or.inl ⟨by rfl, ?_⟩) hS ?_
          rotate_left
          · (intro wS hSw; (try dsimp only at hSw); go_simp; try with_reducible rfl)
          try simp only [Act.put, List.setIfInBounds_toArray, List.set_cons_zero, List.set_cons_succ]
          refine AnyX.take (i := 7) (oi := _) (v := ?_) (by rw [List.getElem?_toArray]; rfl) (by kernel_rfl) (by kernel_rfl) (by kernel_rfl) (by kernel_rfl) (by kernel_rfl) (by exact fun _ _ _ h => h) (Or.inl ⟨by rfl, ?_⟩) hS ?_
          rotate_left
          · (intro wS hSw; (try dsimp only at hSw); go_simp; try with_reducible rfl)
          try simp only [Act.put, List.setIfInBounds_toArray, List.set_cons_zero, List.set_cons_succ]
          refine AnyX.only (i := 9) (o := _) (by kernel_rfl) (by rw [List.getElem?_toArray]; rfl) (fun K hK => ?_)
          have c_P0 := P0.cells; have f_P0 := P0.frozens
          have c_P1 := P1.cells; have f_P1 := P1.frozens
          have c_W0 := W0.cells; have f_W0 := W0.frozens
          have c_Q0 := Q0.cells; have f_Q0 := Q0.frozens
          go_simp
          clear c_P0 f_P0 c_P1 f_P1 c_W0 f_W0 c_Q0 f_Q0
          have n_hbC : Below w70.heap.size w70 (((w78.setCell ⟨w73.heap.size, 0, none⟩ (.string r0.durable)).setCell ⟨w73.heap.size, 1, none⟩ (.string r0.pending)).setCell ⟨w73.heap.size, 2, none⟩ (.int .i64 r0.count)) := by
            repeat refine Below.setCell ?_ (by simp <;> omega) _
            exact hbC
          clear hbC
          have n_P0 := P0.keep (show (((w78.setCell ⟨w73.heap.size, 0, none⟩ (.string r0.durable)).setCell ⟨w73.heap.size, 1, none⟩ (.string r0.pending)).setCell ⟨w73.heap.size, 2, none⟩ (.int .i64 r0.count)).heap[_]? = _ from by repeat rw [Below.heap_setCell _ _ _ _ (by simp <;> omega)])
          have n_P1 := P1.keep (show (((w78.setCell ⟨w73.heap.size, 0, none⟩ (.string r0.durable)).setCell ⟨w73.heap.size, 1, none⟩ (.string r0.pending)).setCell ⟨w73.heap.size, 2, none⟩ (.int .i64 r0.count)).heap[_]? = _ from by repeat rw [Below.heap_setCell _ _ _ _ (by simp <;> omega)])
          have n_W0 := W0.keep (show (((w78.setCell ⟨w73.heap.size, 0, none⟩ (.string r0.durable)).setCell ⟨w73.heap.size, 1, none⟩ (.string r0.pending)).setCell ⟨w73.heap.size, 2, none⟩ (.int .i64 r0.count)).heap[_]? = _ from by repeat rw [Below.heap_setCell _ _ _ _ (by simp <;> omega)])
          have n_Q0 : Row (((w78.setCell ⟨w73.heap.size, 0, none⟩ (.string r0.durable)).setCell ⟨w73.heap.size, 1, none⟩ (.string r0.pending)).setCell ⟨w73.heap.size, 2, none⟩ (.int .i64 r0.count)) (w73.heap.size) 31 [.string r0.durable, .string r0.pending, .int .i64 r0.count] := by simpa using (((Q0.set 0 (.string r0.durable)).set 1 (.string r0.pending)).set 2 (.int .i64 r0.count))
          have n_AT := AT.frameA (w' := (((w78.setCell ⟨w73.heap.size, 0, none⟩ (.string r0.durable)).setCell ⟨w73.heap.size, 1, none⟩ (.string r0.pending)).setCell ⟨w73.heap.size, 2, none⟩ (.int .i64 r0.count))) fun b hb => by
            have h6 := lAT b hb
            repeat rw [Below.heap_setCell _ _ _ _ (by simp <;> omega)]
          have n_A0 := A0.frameA (w' := (((w78.setCell ⟨w73.heap.size, 0, none⟩ (.string r0.durable)).setCell ⟨w73.heap.size, 1, none⟩ (.string r0.pending)).setCell ⟨w73.heap.size, 2, none⟩ (.int .i64 r0.count))) fun b hb => by
            have h6 := lA0 b hb
            repeat rw [Below.heap_setCell _ _ _ _ (by simp <;> omega)]
          have n_A1 := A1.frameA (w' := (((w78.setCell ⟨w73.heap.size, 0, none⟩ (.string r0.durable)).setCell ⟨w73.heap.size, 1, none⟩ (.string r0.pending)).setCell ⟨w73.heap.size, 2, none⟩ (.int .i64 r0.count))) fun b hb => by
            have h6 := lA1 b hb
            repeat rw [Below.heap_setCell _ _ _ _ (by simp <;> omega)]
          have n_hB : Below w.heap.size w (((w78.setCell ⟨w73.heap.size, 0, none⟩ (.string r0.durable)).setCell ⟨w73.heap.size, 1, none⟩ (.string r0.pending)).setCell ⟨w73.heap.size, 2, none⟩ (.int .i64 r0.count)) := by
            repeat refine Below.setCell ?_ (by simp <;> omega) _
            exact hB
          clear hB P0 P1 W0 Q0 AT A0 A1
          have hs_w79 : w78.heap.size ≤ (((w78.setCell ⟨w73.heap.size, 0, none⟩ (.string r0.durable)).setCell ⟨w73.heap.size, 1, none⟩ (.string r0.pending)).setCell ⟨w73.heap.size, 2, none⟩ (.int .i64 r0.count)).heap.size := by simp
          generalize (((w78.setCell ⟨w73.heap.size, 0, none⟩ (.string r0.durable)).setCell ⟨w73.heap.size, 1, none⟩ (.string r0.pending)).setCell ⟨w73.heap.size, 2, none⟩ (.int .i64 r0.count)) = w79 at *
          have hB := n_hB; clear n_hB
          have P0 := n_P0; clear n_P0
          have P1 := n_P1; clear n_P1
          have W0 := n_W0; clear n_W0
          have Q0 := n_Q0; clear n_Q0
          have AT := n_AT; clear n_AT
          have A0 := n_A0; clear n_A0
          have A1 := n_A1; clear n_A1
          have hbC := n_hbC; clear n_hbC
          clear hS
          have hS : (fun w' => w'.cell? ⟨w.heap.size, 0, none⟩ = some (.string x0.durable) ∧ w'.cell? ⟨w.heap.size, 1, none⟩ = some (.string x0.pending) ∧ w'.cell? ⟨w.heap.size, 2, none⟩ = some (.int .i64 x0.count) ∧ w'.cell? ⟨w.heap.size + 1, 0, none⟩ = some (.string x1.command) ∧ w'.cell? ⟨w.heap.size + 1, 1, none⟩ = some (.string x1.reply)) w79 := ⟨P0.cells 0, P0.cells 1, P0.cells 2, P1.cells 0, P1.cells 1⟩
          refine hK.out _ _ (fun _ => hS) ?_
          clear hK K
          try simp only [Act.put, List.setIfInBounds_toArray, List.set_cons_zero, List.set_cons_succ]
          refine AnyX.only (i := 10) (o := _) (by kernel_rfl) (by rw [List.getElem?_toArray]; rfl) (fun K hK => ?_)
          try go_simp
          clear hS
          have hS : (fun w' => w'.cell? ⟨w.heap.size, 0, none⟩ = some (.string x0.durable) ∧ w'.cell? ⟨w.heap.size, 1, none⟩ = some (.string x0.pending) ∧ w'.cell? ⟨w.heap.size, 2, none⟩ = some (.int .i64 x0.count) ∧ w'.cell? ⟨w.heap.size + 1, 0, none⟩ = some (.string x1.command) ∧ w'.cell? ⟨w.heap.size + 1, 1, none⟩ = some (.string x1.reply)) w79 := ⟨P0.cells 0, P0.cells 1, P0.cells 2, P1.cells 0, P1.cells 1⟩
          refine hK.out _ _ (fun _ => hS) ?_
          clear hK K
          try simp only [Act.put, List.setIfInBounds_toArray, List.set_cons_zero, List.set_cons_succ]
          refine AnyX.done (by kernel_rfl) ?_ _
          (try clear hS)
          go_wp2_with fail
          go_meet
          exact ⟨w73.heap.size, rfl, rfl, Q0, by omega, m1, m2, hbC⟩
      · go_simp
        have al : Below w72.heap.size w72 (w72.alloc (.cells #[.string ⟨#[]⟩, .string ⟨#[]⟩, .int .i64 0] 31)) := by
          repeat refine Below.alloc ?_ (by simp <;> omega) _
          exact Below.refl _ _
        have n_Q0 := Row.made w72 31 [.string ⟨#[]⟩, .string ⟨#[]⟩, .int .i64 0]
        have hs_w80 : w72.heap.size < (w72.alloc (.cells #[.string ⟨#[]⟩, .string ⟨#[]⟩, .int .i64 0] 31)).heap.size := by simp
        replace P0 := P0.below al
        replace P1 := P1.below al
        replace W0 := W0.below al
        replace AT := AT.below al
        replace A0 := A0.below al
        replace A1 := A1.below al
        replace y0 := y0.below al
        replace hB := tr hB al (Nat.le_refl _)
        replace hbC := tr hbC al (Nat.le_refl _)
        generalize (w72.alloc (.cells #[.string ⟨#[]⟩, .string ⟨#[]⟩, .int .i64 0] 31)) = w80 at *
        have Q0 := n_Q0; clear n_Q0
        clear al
        clear hS
        have hS : (fun w' => w'.cell? ⟨w.heap.size, 0, none⟩ = some (.string x0.durable) ∧ w'.cell? ⟨w.heap.size, 1, none⟩ = some (.string x0.pending) ∧ w'.cell? ⟨w.heap.size, 2, none⟩ = some (.int .i64 x0.count) ∧ w'.cell? ⟨w.heap.size + 1, 0, none⟩ = some (.string x1.command) ∧ w'.cell? ⟨w.heap.size + 1, 1, none⟩ = some (.string x1.reply)) w80 := ⟨P0.cells 0, P0.cells 1, P0.cells 2, P1.cells 0, P1.cells 1⟩
        refine hK.out _ _ (fun _ => hS) ?_
        clear hK K
        try simp only [Act.put, List.setIfInBounds_toArray, List.set_cons_zero, List.set_cons_succ]
        refine AnyX.only (i := 3) (o := _) (by kernel_rfl) (by rw [List.getElem?_toArray]; rfl) (fun K hK => ?_)
        go_simp
        go_at_call 15
        refine (toLogRecord_c _ x1 F1 _ A1 hw1).mono ?_
        rintro e w81 ⟨y1v, Ky1, rfl, y1, -, -, hb⟩
        have hs_w81 := hb.size
        replace P0 := P0.below hb
        replace P1 := P1.below hb
        replace W0 := W0.below hb
        replace Q0 := Q0.below hb
        replace AT := AT.below hb
        replace A0 := A0.below hb
        replace A1 := A1.below hb
        replace y0 := y0.below hb
        replace hB := tr hB hb (Nat.le_refl _)
        replace hbC := tr hbC hb (Nat.le_refl _)
        clear hb
        clear hS
        have hS : (fun w' => w'.cell? ⟨w.heap.size, 0, none⟩ = some (.string x0.durable) ∧ w'.cell? ⟨w.heap.size, 1, none⟩ = some (.string x0.pending) ∧ w'.cell? ⟨w.heap.size, 2, none⟩ = some (.int .i64 x0.count) ∧ w'.cell? ⟨w.heap.size + 1, 0, none⟩ = some (.string x1.command) ∧ w'.cell? ⟨w.heap.size + 1, 1, none⟩ = some (.string x1.reply)) w81 := ⟨P0.cells 0, P0.cells 1, P0.cells 2, P1.cells 0, P1.cells 1⟩
        refine hK.out _ _ (fun _ => hS) ?_
        clear hK K
        try simp only [Act.put, List.setIfInBounds_toArray, List.set_cons_zero, List.set_cons_succ]
        refine AnyX.only (i := 4) (o := _) (by kernel_rfl) (by rw [List.getElem?_toArray]; rfl) (fun K hK => ?_)
        go_simp
        go_at_call 29
        refine (hI.out _ Ky0 _ Ky1 _ y0 y1 AT).mono ?_
        rintro e w82 ⟨u0, GU0, rfl, U0, -, -, hb⟩
        have hs_w82 := hb.size
        replace P0 := P0.below hb
        replace P1 := P1.below hb
        replace W0 := W0.below hb
        replace Q0 := Q0.below hb
        replace AT := AT.below hb
        replace A0 := A0.below hb
        replace A1 := A1.below hb
        replace y0 := y0.below hb
        replace y1 := y1.below hb
        replace hB := tr hB hb (Nat.le_refl _)
        replace hbC := tr hbC hb (Nat.le_refl _)
        clear hb
        obtain ⟨_, rfl, rfl, m1, m2, -⟩ := U0
        clear y0 y1
        clear hS
        have hS : (fun w' => w'.cell? ⟨w.heap.size, 0, none⟩ = some (.string x0.durable) ∧ w'.cell? ⟨w.heap.size, 1, none⟩ = some (.string x0.pending) ∧ w'.cell? ⟨w.heap.size, 2, none⟩ = some (.int .i64 x0.count) ∧ w'.cell? ⟨w.heap.size + 1, 0, none⟩ = some (.string x1.command) ∧ w'.cell? ⟨w.heap.size + 1, 1, none⟩ = some (.string x1.reply)) w82 := ⟨P0.cells 0, P0.cells 1, P0.cells 2, P1.cells 0, P1.cells 1⟩
        refine hK.out _ _ (fun _ => hS) ?_
        clear hK K
        try simp only [Act.put, List.setIfInBounds_toArray, List.set_cons_zero, List.set_cons_succ]
        refine AnyX.take (i := 5) (oi := _) (v := ?_) (by rw [List.getElem?_toArray]; rfl) (by kernel_rfl) (by kernel_rfl) (by kernel_rfl) (by kernel_rfl) (by kernel_rfl) (by exact fun _ _ _ h => h) (Or.inl ⟨by rfl, ?_⟩) hS ?_
        rotate_left
        · (intro wS hSw; (try dsimp only at hSw); go_simp; try with_reducible rfl)
        try simp only [Act.put, List.setIfInBounds_toArray, List.set_cons_zero, List.set_cons_succ]
        refine AnyX.take (i := 6) (oi := _) (v := ?_) (by rw [List.getElem?_toArray]; rfl) (by kernel_rfl) (by kernel_rfl) (by kernel_rfl) (by kernel_rfl) (by kernel_rfl) (by exact fun _ _ _ h => h) (Or.inl ⟨by rfl, ?_⟩) hS ?_
        rotate_left
        · (intro wS hSw; (try dsimp only at hSw); go_simp; try with_reducible rfl)
        try simp only [Act.put, List.setIfInBounds_toArray, List.set_cons_zero, List.set_cons_succ]
        refine AnyX.take (i := 7) (oi := _) (v := ?_) (by rw [List.getElem?_toArray]; rfl) (by kernel_rfl) (by kernel_rfl) (by kernel_rfl) (by kernel_rfl) (by kernel_rfl) (by exact fun _ _ _ h => h) (Or.inl ⟨by rfl, ?_⟩) hS ?_
        rotate_left
        · (intro wS hSw; (try dsimp only at hSw); go_simp; try with_reducible rfl)
        try simp only [Act.put, List.setIfInBounds_toArray, List.set_cons_zero, List.set_cons_succ]
        refine AnyX.only (i := 9) (o := _) (by kernel_rfl) (by rw [List.getElem?_toArray]; rfl) (fun K hK => ?_)
        have c_P0 := P0.cells; have f_P0 := P0.frozens
        have c_P1 := P1.cells; have f_P1 := P1.frozens
        have c_W0 := W0.cells; have f_W0 := W0.frozens
        have c_Q0 := Q0.cells; have f_Q0 := Q0.frozens
        go_simp
        clear c_P0 f_P0 c_P1 f_P1 c_W0 f_W0 c_Q0 f_Q0
        have n_hbC : Below w70.heap.size w70 (((w82.setCell ⟨w72.heap.size, 0, none⟩ (.string r0.durable)).setCell ⟨w72.heap.size, 1, none⟩ (.string r0.pending)).setCell ⟨w72.heap.size, 2, none⟩ (.int .i64 r0.count)) := by
          repeat refine Below.setCell ?_ (by simp <;> omega) _
          exact hbC
        clear hbC
        have n_P0 := P0.keep (show (((w82.setCell ⟨w72.heap.size, 0, none⟩ (.string r0.durable)).setCell ⟨w72.heap.size, 1, none⟩ (.string r0.pending)).setCell ⟨w72.heap.size, 2, none⟩ (.int .i64 r0.count)).heap[_]? = _ from by repeat rw [Below.heap_setCell _ _ _ _ (by simp <;> omega)])
        have n_P1 := P1.keep (show (((w82.setCell ⟨w72.heap.size, 0, none⟩ (.string r0.durable)).setCell ⟨w72.heap.size, 1, none⟩ (.string r0.pending)).setCell ⟨w72.heap.size, 2, none⟩ (.int .i64 r0.count)).heap[_]? = _ from by repeat rw [Below.heap_setCell _ _ _ _ (by simp <;> omega)])
        have n_W0 := W0.keep (show (((w82.setCell ⟨w72.heap.size, 0, none⟩ (.string r0.durable)).setCell ⟨w72.heap.size, 1, none⟩ (.string r0.pending)).setCell ⟨w72.heap.size, 2, none⟩ (.int .i64 r0.count)).heap[_]? = _ from by repeat rw [Below.heap_setCell _ _ _ _ (by simp <;> omega)])
        have n_Q0 : Row (((w82.setCell ⟨w72.heap.size, 0, none⟩ (.string r0.durable)).setCell ⟨w72.heap.size, 1, none⟩ (.string r0.pending)).setCell ⟨w72.heap.size, 2, none⟩ (.int .i64 r0.count)) (w72.heap.size) 31 [.string r0.durable, .string r0.pending, .int .i64 r0.count] := by simpa using (((Q0.set 0 (.string r0.durable)).set 1 (.string r0.pending)).set 2 (.int .i64 r0.count))
        have n_AT := AT.frameA (w' := (((w82.setCell ⟨w72.heap.size, 0, none⟩ (.string r0.durable)).setCell ⟨w72.heap.size, 1, none⟩ (.string r0.pending)).setCell ⟨w72.heap.size, 2, none⟩ (.int .i64 r0.count))) fun b hb => by
          have h6 := lAT b hb
          repeat rw [Below.heap_setCell _ _ _ _ (by simp <;> omega)]
        have n_A0 := A0.frameA (w' := (((w82.setCell ⟨w72.heap.size, 0, none⟩ (.string r0.durable)).setCell ⟨w72.heap.size, 1, none⟩ (.string r0.pending)).setCell ⟨w72.heap.size, 2, none⟩ (.int .i64 r0.count))) fun b hb => by
          have h6 := lA0 b hb
          repeat rw [Below.heap_setCell _ _ _ _ (by simp <;> omega)]
        have n_A1 := A1.frameA (w' := (((w82.setCell ⟨w72.heap.size, 0, none⟩ (.string r0.durable)).setCell ⟨w72.heap.size, 1, none⟩ (.string r0.pending)).setCell ⟨w72.heap.size, 2, none⟩ (.int .i64 r0.count))) fun b hb => by
          have h6 := lA1 b hb
          repeat rw [Below.heap_setCell _ _ _ _ (by simp <;> omega)]
        have n_hB : Below w.heap.size w (((w82.setCell ⟨w72.heap.size, 0, none⟩ (.string r0.durable)).setCell ⟨w72.heap.size, 1, none⟩ (.string r0.pending)).setCell ⟨w72.heap.size, 2, none⟩ (.int .i64 r0.count)) := by
          repeat refine Below.setCell ?_ (by simp <;> omega) _
          exact hB
        clear hB P0 P1 W0 Q0 AT A0 A1
        have hs_w83 : w82.heap.size ≤ (((w82.setCell ⟨w72.heap.size, 0, none⟩ (.string r0.durable)).setCell ⟨w72.heap.size, 1, none⟩ (.string r0.pending)).setCell ⟨w72.heap.size, 2, none⟩ (.int .i64 r0.count)).heap.size := by simp
        generalize (((w82.setCell ⟨w72.heap.size, 0, none⟩ (.string r0.durable)).setCell ⟨w72.heap.size, 1, none⟩ (.string r0.pending)).setCell ⟨w72.heap.size, 2, none⟩ (.int .i64 r0.count)) = w83 at *
        have hB := n_hB; clear n_hB
        have P0 := n_P0; clear n_P0
        have P1 := n_P1; clear n_P1
        have W0 := n_W0; clear n_W0
        have Q0 := n_Q0; clear n_Q0
        have AT := n_AT; clear n_AT
        have A0 := n_A0; clear n_A0
        have A1 := n_A1; clear n_A1
        have hbC := n_hbC; clear n_hbC
        clear hS
        have hS : (fun w' => w'.cell? ⟨w.heap.size, 0, none⟩ = some (.string x0.durable) ∧ w'.cell? ⟨w.heap.size, 1, none⟩ = some (.string x0.pending) ∧ w'.cell? ⟨w.heap.size, 2, none⟩ = some (.int .i64 x0.count) ∧ w'.cell? ⟨w.heap.size + 1, 0, none⟩ = some (.string x1.command) ∧ w'.cell? ⟨w.heap.size + 1, 1, none⟩ = some (.string x1.reply)) w83 := ⟨P0.cells 0, P0.cells 1, P0.cells 2, P1.cells 0, P1.cells 1⟩
        refine hK.out _ _ (fun _ => hS) ?_
        clear hK K
        try simp only [Act.put, List.setIfInBounds_toArray, List.set_cons_zero, List.set_cons_succ]
        refine AnyX.only (i := 10) (o := _) (by kernel_rfl) (by rw [List.getElem?_toArray]; rfl) (fun K hK => ?_)
        try go_simp
        clear hS
        have hS : (fun w' => w'.cell? ⟨w.heap.size, 0, none⟩ = some (.string x0.durable) ∧ w'.cell? ⟨w.heap.size, 1, none⟩ = some (.string x0.pending) ∧ w'.cell? ⟨w.heap.size, 2, none⟩ = some (.int .i64 x0.count) ∧ w'.cell? ⟨w.heap.size + 1, 0, none⟩ = some (.string x1.command) ∧ w'.cell? ⟨w.heap.size + 1, 1, none⟩ = some (.string x1.reply)) w83 := ⟨P0.cells 0, P0.cells 1, P0.cells 2, P1.cells 0, P1.cells 1⟩
        refine hK.out _ _ (fun _ => hS) ?_
        clear hK K
        try simp only [Act.put, List.setIfInBounds_toArray, List.set_cons_zero, List.set_cons_succ]
        refine AnyX.done (by kernel_rfl) ?_ _
        (try clear hS)
        go_wp2_with fail
        go_meet
        exact ⟨w72.heap.size, rfl, rfl, Q0, by omega, m1, m2, hbC⟩
    · go_simp
      have al : Below w71.heap.size w71 (w71.alloc (.cells #[.string ⟨#[]⟩, .string ⟨#[]⟩, .int .i64 0] 31)) := by
        repeat refine Below.alloc ?_ (by simp <;> omega) _
        exact Below.refl _ _
      have n_Q0 := Row.made w71 31 [.string ⟨#[]⟩, .string ⟨#[]⟩, .int .i64 0]
      have hs_w84 : w71.heap.size < (w71.alloc (.cells #[.string ⟨#[]⟩, .string ⟨#[]⟩, .int .i64 0] 31)).heap.size := by simp
      replace P0 := P0.below al
      replace P1 := P1.below al
      replace W0 := W0.below al
      replace AT := AT.below al
      replace A0 := A0.below al
      replace A1 := A1.below al
      replace hB := tr hB al (Nat.le_refl _)
      replace hbC := tr hbC al (Nat.le_refl _)
      generalize (w71.alloc (.cells #[.string ⟨#[]⟩, .string ⟨#[]⟩, .int .i64 0] 31)) = w84 at *
      have Q0 := n_Q0; clear n_Q0
      clear al
      clear hS
      have hS : (fun w' => w'.cell? ⟨w.heap.size, 0, none⟩ = some (.string x0.durable) ∧ w'.cell? ⟨w.heap.size, 1, none⟩ = some (.string x0.pending) ∧ w'.cell? ⟨w.heap.size, 2, none⟩ = some (.int .i64 x0.count) ∧ w'.cell? ⟨w.heap.size + 1, 0, none⟩ = some (.string x1.command) ∧ w'.cell? ⟨w.heap.size + 1, 1, none⟩ = some (.string x1.reply)) w84 := ⟨P0.cells 0, P0.cells 1, P0.cells 2, P1.cells 0, P1.cells 1⟩
      refine hK.out _ _ (fun _ => hS) ?_
      clear hK K
      try simp only [Act.put, List.setIfInBounds_toArray, List.set_cons_zero, List.set_cons_succ]
      refine AnyX.only (i := 1) (o := _) (by kernel_rfl) (by rw [List.getElem?_toArray]; rfl) (fun K hK => ?_)
      go_simp
      go_at_call 22
      refine (toLog_c _ x0 F0 _ A0 hw0).mono ?_
      rintro e w85 ⟨y0v, Ky0, rfl, y0, -, -, hb⟩
      have hs_w85 := hb.size
      replace P0 := P0.below hb
      replace P1 := P1.below hb
      replace W0 := W0.below hb
      replace Q0 := Q0.below hb
      replace AT := AT.below hb
      replace A0 := A0.below hb
      replace A1 := A1.below hb
      replace hB := tr hB hb (Nat.le_refl _)
      replace hbC := tr hbC hb (Nat.le_refl _)
      clear hb
      clear hS
      have hS : (fun w' => w'.cell? ⟨w.heap.size, 0, none⟩ = some (.string x0.durable) ∧ w'.cell? ⟨w.heap.size, 1, none⟩ = some (.string x0.pending) ∧ w'.cell? ⟨w.heap.size, 2, none⟩ = some (.int .i64 x0.count) ∧ w'.cell? ⟨w.heap.size + 1, 0, none⟩ = some (.string x1.command) ∧ w'.cell? ⟨w.heap.size + 1, 1, none⟩ = some (.string x1.reply)) w85 := ⟨P0.cells 0, P0.cells 1, P0.cells 2, P1.cells 0, P1.cells 1⟩
      refine hK.out _ _ (fun _ => hS) ?_
      clear hK K
      try simp only [Act.put, List.setIfInBounds_toArray, List.set_cons_zero, List.set_cons_succ]
      refine AnyX.only (i := 3) (o := _) (by kernel_rfl) (by rw [List.getElem?_toArray]; rfl) (fun K hK => ?_)
      go_simp
      go_at_call 15
      refine (toLogRecord_c _ x1 F1 _ A1 hw1).mono ?_
      rintro e w86 ⟨y1v, Ky1, rfl, y1, -, -, hb⟩
      have hs_w86 := hb.size
      replace P0 := P0.below hb
      replace P1 := P1.below hb
      replace W0 := W0.below hb
      replace Q0 := Q0.below hb
      replace AT := AT.below hb
      replace A0 := A0.below hb
      replace A1 := A1.below hb
      replace y0 := y0.below hb
      replace hB := tr hB hb (Nat.le_refl _)
      replace hbC := tr hbC hb (Nat.le_refl _)
      clear hb
      clear hS
      have hS : (fun w' => w'.cell? ⟨w.heap.size, 0, none⟩ = some (.string x0.durable) ∧ w'.cell? ⟨w.heap.size, 1, none⟩ = some (.string x0.pending) ∧ w'.cell? ⟨w.heap.size, 2, none⟩ = some (.int .i64 x0.count) ∧ w'.cell? ⟨w.heap.size + 1, 0, none⟩ = some (.string x1.command) ∧ w'.cell? ⟨w.heap.size + 1, 1, none⟩ = some (.string x1.reply)) w86 := ⟨P0.cells 0, P0.cells 1, P0.cells 2, P1.cells 0, P1.cells 1⟩
      refine hK.out _ _ (fun _ => hS) ?_
      clear hK K
      try simp only [Act.put, List.setIfInBounds_toArray, List.set_cons_zero, List.set_cons_succ]
      refine AnyX.only (i := 4) (o := _) (by kernel_rfl) (by rw [List.getElem?_toArray]; rfl) (fun K hK => ?_)
      go_simp
      go_at_call 29
      refine (hI.out _ Ky0 _ Ky1 _ y0 y1 AT).mono ?_
      rintro e w87 ⟨u0, GU0, rfl, U0, -, -, hb⟩
      have hs_w87 := hb.size
      replace P0 := P0.below hb
      replace P1 := P1.below hb
      replace W0 := W0.below hb
      replace Q0 := Q0.below hb
      replace AT := AT.below hb
      replace A0 := A0.below hb
      replace A1 := A1.below hb
      replace y0 := y0.below hb
      replace y1 := y1.below hb
      replace hB := tr hB hb (Nat.le_refl _)
      replace hbC := tr hbC hb (Nat.le_refl _)
      clear hb
      obtain ⟨_, rfl, rfl, m1, m2, -⟩ := U0
      clear y0 y1
      clear hS
      have hS : (fun w' => w'.cell? ⟨w.heap.size, 0, none⟩ = some (.string x0.durable) ∧ w'.cell? ⟨w.heap.size, 1, none⟩ = some (.string x0.pending) ∧ w'.cell? ⟨w.heap.size, 2, none⟩ = some (.int .i64 x0.count) ∧ w'.cell? ⟨w.heap.size + 1, 0, none⟩ = some (.string x1.command) ∧ w'.cell? ⟨w.heap.size + 1, 1, none⟩ = some (.string x1.reply)) w87 := ⟨P0.cells 0, P0.cells 1, P0.cells 2, P1.cells 0, P1.cells 1⟩
      refine hK.out _ _ (fun _ => hS) ?_
      clear hK K
      try simp only [Act.put, List.setIfInBounds_toArray, List.set_cons_zero, List.set_cons_succ]
      refine AnyX.take (i := 5) (oi := _) (v := ?_) (by rw [List.getElem?_toArray]; rfl) (by kernel_rfl) (by kernel_rfl) (by kernel_rfl) (by kernel_rfl) (by kernel_rfl) (by exact fun _ _ _ h => h) (Or.inl ⟨by rfl, ?_⟩) hS ?_
      rotate_left
      · (intro wS hSw; (try dsimp only at hSw); go_simp; try with_reducible rfl)
      try simp only [Act.put, List.setIfInBounds_toArray, List.set_cons_zero, List.set_cons_succ]
      refine AnyX.take (i := 6) (oi := _) (v := ?_) (by rw [List.getElem?_toArray]; rfl) (by kernel_rfl) (by kernel_rfl) (by kernel_rfl) (by kernel_rfl) (by kernel_rfl) (by exact fun _ _ _ h => h) (Or.inl ⟨by rfl, ?_⟩) hS ?_
      rotate_left
      · (intro wS hSw; (try dsimp only at hSw); go_simp; try with_reducible rfl)
      try simp only [Act.put, List.setIfInBounds_toArray, List.set_cons_zero, List.set_cons_succ]
      refine AnyX.take (i := 7) (oi := _) (v := ?_) (by rw [List.getElem?_toArray]; rfl) (by kernel_rfl) (by kernel_rfl) (by kernel_rfl) (by kernel_rfl) (by kernel_rfl) (by exact fun _ _ _ h => h) (Or.inl ⟨by rfl, ?_⟩) hS ?_
      rotate_left
      · (intro wS hSw; (try dsimp only at hSw); go_simp; try with_reducible rfl)
      try simp only [Act.put, List.setIfInBounds_toArray, List.set_cons_zero, List.set_cons_succ]
      refine AnyX.only (i := 9) (o := _) (by kernel_rfl) (by rw [List.getElem?_toArray]; rfl) (fun K hK => ?_)
      have c_P0 := P0.cells; have f_P0 := P0.frozens
      have c_P1 := P1.cells; have f_P1 := P1.frozens
      have c_W0 := W0.cells; have f_W0 := W0.frozens
      have c_Q0 := Q0.cells; have f_Q0 := Q0.frozens
      go_simp
      clear c_P0 f_P0 c_P1 f_P1 c_W0 f_W0 c_Q0 f_Q0
      have n_hbC : Below w70.heap.size w70 (((w87.setCell ⟨w71.heap.size, 0, none⟩ (.string r0.durable)).setCell ⟨w71.heap.size, 1, none⟩ (.string r0.pending)).setCell ⟨w71.heap.size, 2, none⟩ (.int .i64 r0.count)) := by
        repeat refine Below.setCell ?_ (by simp <;> omega) _
        exact hbC
      clear hbC
      have n_P0 := P0.keep (show (((w87.setCell ⟨w71.heap.size, 0, none⟩ (.string r0.durable)).setCell ⟨w71.heap.size, 1, none⟩ (.string r0.pending)).setCell ⟨w71.heap.size, 2, none⟩ (.int .i64 r0.count)).heap[_]? = _ from by repeat rw [Below.heap_setCell _ _ _ _ (by simp <;> omega)])
      have n_P1 := P1.keep (show (((w87.setCell ⟨w71.heap.size, 0, none⟩ (.string r0.durable)).setCell ⟨w71.heap.size, 1, none⟩ (.string r0.pending)).setCell ⟨w71.heap.size, 2, none⟩ (.int .i64 r0.count)).heap[_]? = _ from by repeat rw [Below.heap_setCell _ _ _ _ (by simp <;> omega)])
      have n_W0 := W0.keep (show (((w87.setCell ⟨w71.heap.size, 0, none⟩ (.string r0.durable)).setCell ⟨w71.heap.size, 1, none⟩ (.string r0.pending)).setCell ⟨w71.heap.size, 2, none⟩ (.int .i64 r0.count)).heap[_]? = _ from by repeat rw [Below.heap_setCell _ _ _ _ (by simp <;> omega)])
      have n_Q0 : Row (((w87.setCell ⟨w71.heap.size, 0, none⟩ (.string r0.durable)).setCell ⟨w71.heap.size, 1, none⟩ (.string r0.pending)).setCell ⟨w71.heap.size, 2, none⟩ (.int .i64 r0.count)) (w71.heap.size) 31 [.string r0.durable, .string r0.pending, .int .i64 r0.count] := by simpa using (((Q0.set 0 (.string r0.durable)).set 1 (.string r0.pending)).set 2 (.int .i64 r0.count))
      have n_AT := AT.frameA (w' := (((w87.setCell ⟨w71.heap.size, 0, none⟩ (.string r0.durable)).setCell ⟨w71.heap.size, 1, none⟩ (.string r0.pending)).setCell ⟨w71.heap.size, 2, none⟩ (.int .i64 r0.count))) fun b hb => by
        have h6 := lAT b hb
        repeat rw [Below.heap_setCell _ _ _ _ (by simp <;> omega)]
      have n_A0 := A0.frameA (w' := (((w87.setCell ⟨w71.heap.size, 0, none⟩ (.string r0.durable)).setCell ⟨w71.heap.size, 1, none⟩ (.string r0.pending)).setCell ⟨w71.heap.size, 2, none⟩ (.int .i64 r0.count))) fun b hb => by
        have h6 := lA0 b hb
        repeat rw [Below.heap_setCell _ _ _ _ (by simp <;> omega)]
      have n_A1 := A1.frameA (w' := (((w87.setCell ⟨w71.heap.size, 0, none⟩ (.string r0.durable)).setCell ⟨w71.heap.size, 1, none⟩ (.string r0.pending)).setCell ⟨w71.heap.size, 2, none⟩ (.int .i64 r0.count))) fun b hb => by
        have h6 := lA1 b hb
        repeat rw [Below.heap_setCell _ _ _ _ (by simp <;> omega)]
      have n_hB : Below w.heap.size w (((w87.setCell ⟨w71.heap.size, 0, none⟩ (.string r0.durable)).setCell ⟨w71.heap.size, 1, none⟩ (.string r0.pending)).setCell ⟨w71.heap.size, 2, none⟩ (.int .i64 r0.count)) := by
        repeat refine Below.setCell ?_ (by simp <;> omega) _
        exact hB
      clear hB P0 P1 W0 Q0 AT A0 A1
      have hs_w88 : w87.heap.size ≤ (((w87.setCell ⟨w71.heap.size, 0, none⟩ (.string r0.durable)).setCell ⟨w71.heap.size, 1, none⟩ (.string r0.pending)).setCell ⟨w71.heap.size, 2, none⟩ (.int .i64 r0.count)).heap.size := by simp
      generalize (((w87.setCell ⟨w71.heap.size, 0, none⟩ (.string r0.durable)).setCell ⟨w71.heap.size, 1, none⟩ (.string r0.pending)).setCell ⟨w71.heap.size, 2, none⟩ (.int .i64 r0.count)) = w88 at *
      have hB := n_hB; clear n_hB
      have P0 := n_P0; clear n_P0
      have P1 := n_P1; clear n_P1
      have W0 := n_W0; clear n_W0
      have Q0 := n_Q0; clear n_Q0
      have AT := n_AT; clear n_AT
      have A0 := n_A0; clear n_A0
      have A1 := n_A1; clear n_A1
      have hbC := n_hbC; clear n_hbC
      clear hS
      have hS : (fun w' => w'.cell? ⟨w.heap.size, 0, none⟩ = some (.string x0.durable) ∧ w'.cell? ⟨w.heap.size, 1, none⟩ = some (.string x0.pending) ∧ w'.cell? ⟨w.heap.size, 2, none⟩ = some (.int .i64 x0.count) ∧ w'.cell? ⟨w.heap.size + 1, 0, none⟩ = some (.string x1.command) ∧ w'.cell? ⟨w.heap.size + 1, 1, none⟩ = some (.string x1.reply)) w88 := ⟨P0.cells 0, P0.cells 1, P0.cells 2, P1.cells 0, P1.cells 1⟩
      refine hK.out _ _ (fun _ => hS) ?_
      clear hK K
      try simp only [Act.put, List.setIfInBounds_toArray, List.set_cons_zero, List.set_cons_succ]
      refine AnyX.only (i := 10) (o := _) (by kernel_rfl) (by rw [List.getElem?_toArray]; rfl) (fun K hK => ?_)
      try go_simp
      clear hS
      have hS : (fun w' => w'.cell? ⟨w.heap.size, 0, none⟩ = some (.string x0.durable) ∧ w'.cell? ⟨w.heap.size, 1, none⟩ = some (.string x0.pending) ∧ w'.cell? ⟨w.heap.size, 2, none⟩ = some (.int .i64 x0.count) ∧ w'.cell? ⟨w.heap.size + 1, 0, none⟩ = some (.string x1.command) ∧ w'.cell? ⟨w.heap.size + 1, 1, none⟩ = some (.string x1.reply)) w88 := ⟨P0.cells 0, P0.cells 1, P0.cells 2, P1.cells 0, P1.cells 1⟩
      refine hK.out _ _ (fun _ => hS) ?_
      clear hK K
      try simp only [Act.put, List.setIfInBounds_toArray, List.set_cons_zero, List.set_cons_succ]
      refine AnyX.done (by kernel_rfl) ?_ _
      (try clear hS)
      go_wp2_with fail
      go_meet
      exact ⟨w71.heap.size, rfl, rfl, Q0, by omega, m1, m2, hbC⟩
  obtain ⟨bQ0, rfl, rfl, Q0, hbQ0, mQ01, mQ02, hb⟩ := hcut
  generalize wc = w90 at *
  have hs_w90 := hb.size
  have Q0 := Q0
  replace P0 := P0.below hb
  replace P1 := P1.below hb
  replace W0 := W0.below hb
  replace AT := AT.below hb
  replace A0 := A0.below hb
  replace A1 := A1.below hb
  replace hB := tr hB hb (Nat.le_refl _)
  clear hb
  have l_Q0 : bQ0 < w90.heap.size := World.block_lt_of_cell? _ (a := ⟨bQ0, 0, none⟩) (Q0.cells 0)
  have hE1 : (r1 != r1) = false := by simp
  have c_P0 := P0.cells; have f_P0 := P0.frozens
  have c_P1 := P1.cells; have f_P1 := P1.frozens
  have c_W0 := W0.cells; have f_W0 := W0.frozens
  have c_Q0 := Q0.cells; have f_Q0 := Q0.frozens
  go_wp2_with fail
  clear c_P0 f_P0 c_P1 f_P1 c_W0 f_W0 c_Q0 f_Q0
  refine (eqLog_c _ _ r0 [] [] _ (isLog _ _ _ _ mQ01 mQ02) (isLog _ _ _ _ mW01 mW02)).mono ?_
  rintro e w91 ⟨rfl, hb⟩
  have hs_w91 := hb.size
  replace P0 := P0.below hb
  replace P1 := P1.below hb
  replace W0 := W0.below hb
  replace Q0 := Q0.below hb
  replace AT := AT.below hb
  replace A0 := A0.below hb
  replace A1 := A1.below hb
  replace hB := tr hB hb (Nat.le_refl _)
  clear hb
  have c_P0 := P0.cells; have f_P0 := P0.frozens
  have c_P1 := P1.cells; have f_P1 := P1.frozens
  have c_W0 := W0.cells; have f_W0 := W0.frozens
  have c_Q0 := Q0.cells; have f_Q0 := Q0.frozens
  go_wp2_with fail
  go_ret
  exact ⟨rfl, hB⟩
theorem reads_Log : Reads Tryd.prog ELog 36 := fun hh => by
  obtain ⟨y, F, hy⟩ := reads_struct (E := (EProd EStr (EProd EStr (EProd EInt EUnit)))) Tryd.underlying36 (by kernel_rfl) (.cons rfl (by kernel_rfl) (reads_str Tryd.underlying9) (.cons rfl (by kernel_rfl) (reads_str Tryd.underlying9) (.cons rfl (by kernel_rfl) (reads_int Tryd.underlying3) (.nil _)))) hh
  obtain ⟨_, _, _, _, rfl, rfl, ⟨rfl, s0, rfl⟩, ⟨_, _, _, _, rfl, rfl, ⟨rfl, s1, rfl⟩, ⟨_, _, _, _, rfl, rfl, ⟨rfl, rfl⟩, ⟨rfl, rfl⟩⟩⟩⟩ := hy
  exact ⟨⟨y.1, y.2.1, y.2.2.1⟩, [], rfl, s0, s1, rfl⟩
theorem reads_LogRecord : Reads Tryd.prog ELogRecord 23 := fun hh => by
  obtain ⟨y, F, hy⟩ := reads_struct (E := (EProd EStr (EProd EStr EUnit))) Tryd.underlying23 (by kernel_rfl) (.cons rfl (by kernel_rfl) (reads_str Tryd.underlying9) (.cons rfl (by kernel_rfl) (reads_str Tryd.underlying9) (.nil _))) hh
  obtain ⟨_, _, _, _, rfl, rfl, ⟨rfl, s0, rfl⟩, ⟨_, _, _, _, rfl, rfl, ⟨rfl, s1, rfl⟩, ⟨rfl, rfl⟩⟩⟩ := hy
  exact ⟨⟨y.1, y.2.1⟩, [], rfl, s0, s1, rfl⟩
set_option maxRecDepth 100000 in
theorem lifted_AppendRecord (os : Os) (started : os.Started) (H : Type) (enc : TypeId × Value → H) :
    ReturnsInHanded {} Tryd.checked os 8 .any (fun w args => (Rows.fnExactAppendRecordSpec.pre enc Tryd.prog Tryd.f8 Rows.fnExactAppendRecordRow.domain false w args ∧ laidMetH Tryd.prog Rows.fnExactAppendRecordRow.laid w) ∧ sizedMet enc Tryd.prog Tryd.f8 (OpenSpec.ofChange Rows.fnExactAppendRecordSpec) false w args)
      (Rows.fnExactAppendRecordSpec.post enc Tryd.prog Tryd.f8 false true false false) := by
  refine returnsInHanded_of_change_and (C := Tryd.checked) (X := fun w _ => laidMetH Tryd.prog Rows.fnExactAppendRecordRow.laid w) (fun _ _ _ hh h => h.of_heap hh) (by kernel_rfl) started (by kernel_rfl) Tryd.func8
    (ChangeSpec.witness_shaped (enc := enc) (C := Tryd.checked) (os := os) (X := fun w _ => laidMetH Tryd.prog Rows.fnExactAppendRecordRow.laid w) false (World.laidAll Tryd.prog os Rows.fnExactAppendRecordRow.laid) #[.agg #[.string ⟨#[]⟩, .string ⟨#[]⟩, .int .i64 0], .agg #[.string ⟨#[]⟩, .string ⟨#[]⟩]] 8 (World.laidAll_os _ _ _)
      (World.shaped_of_ZipB (by kernel_rfl) (by kernel_rfl)) (by kernel_rfl) (by kernel_rfl) (by kernel_rfl)
      (by rw [MakeChecks.laidMetH_plain _ _ _ (by kernel_rfl)]; exact laidMet_laidAll _ (by kernel_rfl) (by kernel_rfl))) ?_
  intro W base args ds gs before hval0 hW hc_ _ hL _
  have hval : ∀ (j : Nat) t v, Tryd.f8.params[j]? = some t → args[j]? = some v → Value.okWide Tryd.prog W .any base t v := hval0
  have hW' := hW
  obtain ⟨p, q, hA0, hV, rfl, hfz, hnd⟩ := hW
  have hA : DataW.TrodAll enc Tryd.prog W 0 (fun _ => true) true Tryd.f8.params.toList args.toList ds p := hA0
  rw [Tryd.params8] at hA hval
  obtain ⟨v0, v1, d0, d1, p0, p1, rfl, rfl, rfl, h0, h1⟩ := trodAll_two hA
  obtain ⟨cs0, rfl, hsz0⟩ := okWide_struct Tryd.underlying36 (hval 0 36 v0 rfl rfl)
  obtain ⟨fuel0, hf0⟩ := h0
  obtain ⟨x0, F0, hx0⟩ := reads_Log hf0
  obtain ⟨cs1, rfl, hsz1⟩ := okWide_struct Tryd.underlying23 (hval 1 23 v1 rfl rfl)
  obtain ⟨fuel1, hf1⟩ := h1
  obtain ⟨x1, F1, hx1⟩ := reads_LogRecord hf1
  have hT := tab_of_laid hL
  refine (law_AppendRecord _ x0 F0 _ x1 F1 _ W ⟨cs0.toList, by simp, by simpa [Value.cells] using hx0⟩ ⟨cs1.toList, by simp, by simpa [Value.cells] using hx1⟩ hT).mono fun e W' ⟨he, hB⟩ => ⟨_, he, law_post (tb := 4) (by kernel_rfl) ?_ Tryd.underlying4 (by kernel_rfl) rfl rfl hW' hB⟩
  rw [Tryd.params8]
  intro t ht
  simp only [List.mem_cons, List.not_mem_nil, or_false] at ht
  rcases ht with rfl | rfl <;> exact ⟨by kernel_rfl, of_decide_eq_true (by kernel_rfl)⟩
theorem holds_AppendRecord : Rows.FnExactAppendRecordSaid :=
  OpenClaim.holds_of_wide 8 Tryd.f8 rfl rfl rfl rfl rfl rfl rfl ⟨rfl, rfl, rfl, rfl, rfl⟩ rfl rfl rfl rfl rfl (by kernel_rfl) Tryd.func8 (by kernel_rfl)
    (of_decide_eq_true (by kernel_rfl)) (by unfold Func.isWrapper; first | (rw [if_pos (by decide +kernel)]; kernel_rfl) | (rw [if_neg (by decide +kernel)]; exact ⟨rfl, rfl⟩))
    (fun os started H enc _ => lifted_AppendRecord os started H enc)
/-- no parameter wants a stand-in; the looks are off -/
theorem plain_AppendRecord (f : FuncId) (fn : Func) (hf : Tryd.pinned.checked.prog.funcNamed "loop.example/g00840/laws.FnExactAppendRecord" = some f) (hfn : Tryd.pinned.checked.prog.funcs[f]? = some fn) :
    false = Tryd.pinned.checked.prog.looks [] ∧ ∀ (j : Nat) t, fn.params[j]? = some t → Tryd.pinned.checked.prog.wantsStandIn t = false := by
  obtain rfl : f = 8 := Option.some.inj ((show Tryd.prog.funcNamed "loop.example/g00840/laws.FnExactAppendRecord" = some 8 by kernel_rfl).symm.trans hf) |>.symm
  obtain rfl : fn = Tryd.f8 := (Option.some.inj (Tryd.func8.symm.trans hfn)).symm
  refine ⟨by kernel_rfl, fun j t ht => ?_⟩
  rw [Tryd.params8] at ht
  have hm : t ∈ [36, 23] := by simpa using Array.mem_of_getElem? ht
  have hall : ([36, 23].all fun u => !Tryd.prog.wantsStandIn u) = true := by kernel_rfl
  exact (show Tryd.prog.wantsStandIn t = false by simpa using List.all_eq_true.1 hall t hm)
theorem card_AppendRecord : Rows.FnExactAppendRecordCardSaid :=
  Claim7.holds_tied_plain_at .later [] _ _ _ _ holds_AppendRecord (fun _ h => by cases h) (by kernel_rfl) (fun _ h => by cases h) fnExactAppendRecord_row_tie rfl ⟨rfl, rfl⟩ (by kernel_rfl) rfl plain_AppendRecord (by kernel_rfl)
end Go.Proofs.YtnmgaponnfjciaaDoor
