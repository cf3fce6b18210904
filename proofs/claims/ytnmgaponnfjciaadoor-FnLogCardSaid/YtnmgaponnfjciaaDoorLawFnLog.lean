/- The law FnLog: the walk of the law itself out of the contracts of its functions. No condition beyond the form's own reach. -/
import Derived.Test.YtnmgaponnfjciaaDoorDrawsLog2
import Derived.Test.YtnmgaponnfjciaaDoorCRecoverLog
import Derived.Test.YtnmgaponnfjciaaDoorCLogRecords
import Derived.Test.YtnmgaponnfjciaaDoorCIsValidLog
import Derived.Test.YtnmgaponnfjciaaDoorCSyncLog
import Derived.Test.YtnmgaponnfjciaaDoorCAppendRecord
import Derived.Test.YtnmgaponnfjciaaDoorLogPlain2
import Derived.Test.YtnmgaponnfjciaaDoorLaw
import Derived.Test.YtnmgaponnfjciaaDoorCards
import Derived.Test.YtnmgaponnfjciaaDoorTie
import Derived.LaidMore
import Derived.Lay
import Derived.SevenTiedAt
import Derived.Stop.Joined
import Derived.Test.YtnmgaponnfjciaaDoorTab
import Derived.Test.YtnmgaponnfjciaaDoorLaw2
namespace Go.Proofs.YtnmgaponnfjciaaDoor
open Go.RowKit Go.ChangeShapes Go.WideShapes Go.ChangeAt
theorem vBig_c (v : Value) (code : List Int) (F : List Nat) (w : World) (h : Sl EByte w v code F) : Calls Tryd.prog 35 #[v] w fun e w' => e = .returned (.bool (decide (65536 < (code.length : Int)))) ∧ w = w' := by
  obtain ⟨a, c, rfl⟩ := h.slice
  have hl := h.len; unfold maxLen at hl
  go_enter Tryd.func35, Tryd.ntmps35
  go_wp2
  go_ret
  exact ⟨rfl, rfl⟩
theorem reads_byte : Reads Tryd.prog EByte 5 := fun h => by
  obtain ⟨n, rfl, _, hw⟩ := DataW.trod_int Tryd.underlying5 h
  have hb := bounds_u8 hw
  exact ⟨n, [], rfl, hb.1, hb.2, rfl⟩
theorem lt_of_reads {w v} {code : List Int} {F} (h : Sl EByte w v code F) : ∀ b ∈ F, b < w.heap.size := h.lt (by decide)
theorem app_facts {x : Log} {e : LogRecord} {m : Log} {co : Int} (h : resAppendRecord x e = (m, co)) :
    (co ≠ 0 ∧ m = x) ∨ (co = 0 ∧ okLog m ∧ ∃ ys : List LogRecord, ys.length ≤ 60 ∧ resLogRecords x = (ys, true) ∧ resLogRecords m = (ys ++ [e], true) ∧ m.count = (ys.length : Int) + 1 ∧
      resRecoverLog (m.durable ++ m.pending) = ((⟨m.durable ++ m.pending, (⟨#[]⟩ : ByteArray), m.count⟩ : Log), (((m.durable ++ m.pending).size : Nat) : Int), true) ∧ resSyncLog m = ((⟨m.durable ++ m.pending, (⟨#[]⟩ : ByteArray), m.count⟩ : Log), true)) := by
  have hap := fun hx : okLog x => hx.append e
  rw [h] at hap
  unfold resAppendRecord at h
  split at h
  · simp only [Prod.mk.injEq] at h; left; exact ⟨by omega, h.1.symm⟩
  · rename_i h1
    simp only [Bool.or_eq_true, Bool.not_eq_true', not_or, Bool.not_eq_false] at h1
    split at h
    · simp only [Prod.mk.injEq] at h; left; exact ⟨by omega, h.1.symm⟩
    · rename_i h2
      simp only [Prod.mk.injEq] at h
      obtain ⟨rfl, rfl⟩ := h
      right
      have hx : okLog x := h1.1
      have hm := hap hx
      have hv := valid_of h1.1
      have hct := hx.count
      have hgL : goodL e.command.data.toList e.reply.data.toList = true := by rw [← goodRec_L]; exact h1.2
      have hG := goodL_good hgL
      have hok : okL (opened (x.durable.data.toList ++ x.pending.data.toList)).length (lineL x.count.toNat e.command.data.toList e.reply.data.toList) = true := okL_iff.2 ⟨_, _, by have := hv.cnt; omega, hgL, by rw [hv.cnt, Int.toNat_natCast]⟩
      obtain ⟨hv2, ho⟩ := hv.append hok
      have hmv := valid_of hm
      dsimp only [app_list, bs_list] at hmv
      have hrl : recL (lineL x.count.toNat e.command.data.toList e.reply.data.toList) = e := by
        unfold recL; rw [cmd_line hG, rep_line hG, bs_of, bs_of]
      have hms := hm.small
      dsimp only at hms hm ⊢
      have hlen : ((opened (x.durable.data.toList ++ x.pending.data.toList)).map recL).length ≤ 60 := by rw [List.length_map]; exact (opened_small _).2
      refine ⟨rfl, hm, (opened (x.durable.data.toList ++ x.pending.data.toList)).map recL, hlen, ?_, ?_, ?_, ?_, (okLog.sync hm).1⟩
      · unfold resLogRecords; rw [if_pos h1.1]
      · unfold resLogRecords
        have hm' := hm
        unfold okLog at hm'
        rw [if_pos hm']
        dsimp only
        rw [app_list, bs_list, ho, List.map_append, List.map_cons, List.map_nil, hrl]
      · rw [List.length_map, hv.cnt]
      · have hall : (opened (x.durable ++ (x.pending ++ bs (lineL x.count.toNat e.command.data.toList e.reply.data.toList))).data.toList) = opened (x.durable.data.toList ++ x.pending.data.toList) ++ [lineL x.count.toNat e.command.data.toList e.reply.data.toList] := by
          rw [app_list, app_list, bs_list, ho]
        have hfl := hv2.all
        rw [ho] at hfl
        unfold resRecoverLog
        rw [if_pos (by simp only [ByteArray.size_append] at hms ⊢; omega), hall, hfl]
        have e1 : bs (x.durable.data.toList ++ (x.pending.data.toList ++ lineL x.count.toNat e.command.data.toList e.reply.data.toList)) = x.durable ++ (x.pending ++ bs (lineL x.count.toNat e.command.data.toList e.reply.data.toList)) := by
          rw [app_bs x.pending, app_bs, bs_list, bs_list]
        rw [e1]
        have e2 : (x.durable.data.toList ++ (x.pending.data.toList ++ lineL x.count.toNat e.command.data.toList e.reply.data.toList)).length = (x.durable ++ (x.pending ++ bs (lineL x.count.toNat e.command.data.toList e.reply.data.toList))).size := by
          rw [← bs_size, e1]
        rw [e2]
        have e3 : ((opened (x.durable.data.toList ++ x.pending.data.toList) ++ [lineL x.count.toNat e.command.data.toList e.reply.data.toList]).length : Int) = x.count + 1 := by
          rw [List.length_append, hv.cnt]; simp
        rw [e3]
set_option maxHeartbeats 8000000 in
set_option maxRecDepth 100000 in
theorem law_FnLog (v0 : Value) (code : List Int) (F0 : List Nat) (FT : List Nat) (w : World) (h0 : Sl EByte w v0 code F0) (hT : IsV ETab w (.agg #[]) () FT) :
    Calls Tryd.prog 11 #[v0] w fun e' w' => e' = .returned (.bool true) ∧ Below w.heap.size w w' := by
  have hFT := hT.lt
  obtain ⟨a, c, rfl⟩ := h0.slice
  have hBg := fun w h => vBig_c (.slice a code.length c) code F0 w h
  have hcl := h0.len; unfold maxLen at hcl
  by_cases hbig : 65536 < code.length
  · rw [decide_eq_true (by omega)] at hBg
    replace hBg := Lib.hid hBg
    go_enter Tryd.func11, Tryd.ntmps11
    go_wp2_with fail
    refine (hBg.out _ h0).mono ?_
    rintro e w' ⟨rfl, rfl⟩
    go_wp2_with fail
    go_ret
    exact ⟨rfl, Below.refl _ _⟩
  · rw [decide_eq_false (by omega)] at hBg
    replace hBg := Lib.hid hBg
    go_enter Tryd.func11, Tryd.ntmps11
    go_wp2_with fail
    refine (hBg.out _ h0).mono ?_
    rintro e w' ⟨rfl, rfl⟩
    go_wp2_with fail
    have hB := Below.refl w.heap.size w
    refine (DrawAppendRecord_c _ code F0 _ h0).mono ?_
    rintro e w1 ⟨ld, lp, lq, ec, er, hld, hlp, hec, her, rfl, hb⟩
    have hs_w1 := hb.size
    replace hT := hT.below hb
    replace hB := tr hB hb (Nat.le_refl _)
    clear hb
    go_wp2_with fail
    have al : Below w1.heap.size w1 ((w1.alloc (.cells #[.string ld, .string lp, .int .i64 lq] 31)).alloc (.cells #[.string ec, .string er] 27)) := by
      repeat refine Below.alloc ?_ (by simp <;> omega) _
      exact Below.refl _ _
    have n_RL : Row ((w1.alloc (.cells #[.string ld, .string lp, .int .i64 lq] 31)).alloc (.cells #[.string ec, .string er] 27)) (w1.heap.size) 31 [.string ld, .string lp, .int .i64 lq] := by simp [row_alloc] <;> omega
    have n_RE : Row ((w1.alloc (.cells #[.string ld, .string lp, .int .i64 lq] 31)).alloc (.cells #[.string ec, .string er] 27)) (w1.heap.size + 1) 27 [.string ec, .string er] := by simp [row_alloc] <;> omega
    have hs_w2 : w1.heap.size + 1 < ((w1.alloc (.cells #[.string ld, .string lp, .int .i64 lq] 31)).alloc (.cells #[.string ec, .string er] 27)).heap.size := by simp <;> omega
    replace hT := hT.below al
    replace hB := tr hB al (Nat.le_refl _)
    generalize ((w1.alloc (.cells #[.string ld, .string lp, .int .i64 lq] 31)).alloc (.cells #[.string ec, .string er] 27)) = w2 at *
    have RL := n_RL; clear n_RL
    have RE := n_RE; clear n_RE
    clear al
    have hwl : wtLog ⟨ld, lp, lq⟩ ≤ 1048576 := by unfold wtLog; dsimp only; omega
    have hm1 : ld.size ≤ maxLen ∧ lp.size ≤ maxLen := by unfold maxLen; omega
    have hwe : wtLogRecord ⟨ec, er⟩ ≤ 1048576 := by unfold wtLogRecord; dsimp only; omega
    have hm3 : ec.size ≤ maxLen ∧ er.size ≤ maxLen := by unfold maxLen; omega
    have hA := fun (w : World) (hT : IsV ETab w (.agg #[]) () FT) => AppendRecord_c _ ⟨ld, lp, lq⟩ [] _ ⟨ec, er⟩ [] FT w (isLog w ld lp lq hm1.1 hm1.2) ⟨_, rfl, rfl, hm3.1, hm3.2, rfl⟩ hwl hwe hT
    have hA2 := fun (w : World) => specAppendRecord_c _ ⟨ld, lp, lq⟩ [] _ ⟨ec, er⟩ [] w (isLog w ld lp lq hm1.1 hm1.2) ⟨_, rfl, rfl, hm3.1, hm3.2, rfl⟩ hwl hwe
    obtain ⟨⟨md, mp, mq⟩, co, hres⟩ : ∃ m co, resAppendRecord ⟨ld, lp, lq⟩ ⟨ec, er⟩ = (m, co) := ⟨_, _, rfl⟩
    rw [hres] at hA hA2
    have hV := fun (w : World) (hT : IsV ETab w (.agg #[]) () FT) => IsValidLog_c _ ⟨ld, lp, lq⟩ [] FT w (isLog w ld lp lq hm1.1 hm1.2) hwl hT
    have hV2 := fun (w : World) => specIsValidLog_c _ ⟨ld, lp, lq⟩ [] w (isLog w ld lp lq hm1.1 hm1.2) hwl
    generalize resIsValidLog ⟨ld, lp, lq⟩ = bl at *
    have hW := fun (w : World) => IsValidRecord_c ec er w hm3.1 hm3.2
    have hW2 := fun (w : World) => specIsValidRecord_c ec er w hm3.1 hm3.2
    generalize goodRec ec er = be at *
    replace hA := Lib.hid hA; replace hA2 := Lib.hid hA2; replace hV := Lib.hid hV; replace hV2 := Lib.hid hV2; replace hW := Lib.hid hW; replace hW2 := Lib.hid hW2; replace hres := Lib.hid hres
    have c_RL := RL.cells; have f_RL := RL.frozens
    have c_RE := RE.cells; have f_RE := RE.frozens
    go_wp2_with fail
    clear c_RL f_RL c_RE f_RE
    refine (hA.out _ hT).mono ?_
    rintro e w3 ⟨u0, G0, rfl, ⟨_, rfl, rfl, -, -, -⟩, -, -, hb⟩
    have hs_w3 := hb.size
    replace RL := RL.below hb
    replace RE := RE.below hb
    replace hT := hT.below hb
    replace hB := tr hB hb (Nat.le_refl _)
    clear hb
    have c_RL := RL.cells; have f_RL := RL.frozens; have d_RL := fun o => (RL.alloc o).cells; have e_RL := fun o => (RL.alloc o).frozens
    have c_RE := RE.cells; have f_RE := RE.frozens; have d_RE := fun o => (RE.alloc o).cells; have e_RE := fun o => (RE.alloc o).frozens
    go_wp2_with fail
    clear c_RL f_RL d_RL e_RL c_RE f_RE d_RE e_RE
    have al : Below w3.heap.size w3 (w3.alloc (.cells #[.string md, .string mp, .int .i64 mq] 31)) := by
      repeat refine Below.alloc ?_ (by simp <;> omega) _
      exact Below.refl _ _
    have n_RM := Row.made w3 31 [.string md, .string mp, .int .i64 mq]
    have hs_w4 : w3.heap.size < (w3.alloc (.cells #[.string md, .string mp, .int .i64 mq] 31)).heap.size := by simp
    replace RL := RL.below al
    replace RE := RE.below al
    replace hT := hT.below al
    replace hB := tr hB al (Nat.le_refl _)
    generalize (w3.alloc (.cells #[.string md, .string mp, .int .i64 mq] 31)) = w4 at *
    have RM := n_RM; clear n_RM
    clear al
    have c_RL := RL.cells; have f_RL := RL.frozens
    have c_RE := RE.cells; have f_RE := RE.frozens
    have c_RM := RM.cells; have f_RM := RM.frozens
    go_wp2_with fail
    clear c_RL f_RL c_RE f_RE c_RM f_RM
    refine (hA2.out _).mono ?_
    rintro e w5 ⟨u1, G1, rfl, ⟨_, rfl, rfl, -, -, -⟩, hb⟩
    have hs_w5 := hb.size
    replace RL := RL.below hb
    replace RE := RE.below hb
    replace RM := RM.below hb
    replace hT := hT.below hb
    replace hB := tr hB hb (Nat.le_refl _)
    clear hb
    have c_RL := RL.cells; have f_RL := RL.frozens; have d_RL := fun o => (RL.alloc o).cells; have e_RL := fun o => (RL.alloc o).frozens
    have c_RE := RE.cells; have f_RE := RE.frozens; have d_RE := fun o => (RE.alloc o).cells; have e_RE := fun o => (RE.alloc o).frozens
    have c_RM := RM.cells; have f_RM := RM.frozens; have d_RM := fun o => (RM.alloc o).cells; have e_RM := fun o => (RM.alloc o).frozens
    go_wp2_with fail
    clear c_RL f_RL d_RL e_RL c_RE f_RE d_RE e_RE c_RM f_RM d_RM e_RM
    have al : Below w5.heap.size w5 (w5.alloc (.cells #[.string md, .string mp, .int .i64 mq] 31)) := by
      repeat refine Below.alloc ?_ (by simp <;> omega) _
      exact Below.refl _ _
    have n_RW := Row.made w5 31 [.string md, .string mp, .int .i64 mq]
    have hs_w6 : w5.heap.size < (w5.alloc (.cells #[.string md, .string mp, .int .i64 mq] 31)).heap.size := by simp
    replace RL := RL.below al
    replace RE := RE.below al
    replace RM := RM.below al
    replace hT := hT.below al
    replace hB := tr hB al (Nat.le_refl _)
    generalize (w5.alloc (.cells #[.string md, .string mp, .int .i64 mq] 31)) = w6 at *
    have RW := n_RW; clear n_RW
    clear al
    have c_RL := RL.cells; have f_RL := RL.frozens
    have c_RE := RE.cells; have f_RE := RE.frozens
    have c_RM := RM.cells; have f_RM := RM.frozens
    have c_RW := RW.cells; have f_RW := RW.frozens
    go_wp2_with fail
    clear c_RL f_RL c_RE f_RE c_RM f_RM c_RW f_RW
    rename_i K0 hK0
    refine AnyX.start (S := (fun w' => w'.cell? ⟨w1.heap.size, 0, none⟩ = some (.string ld) ∧ w'.cell? ⟨w1.heap.size, 1, none⟩ = some (.string lp) ∧ w'.cell? ⟨w1.heap.size, 2, none⟩ = some (.int .i64 lq) ∧ w'.cell? ⟨w1.heap.size + 1, 0, none⟩ = some (.string ec) ∧ w'.cell? ⟨w1.heap.size + 1, 1, none⟩ = some (.string er) ∧ w'.cell? ⟨w3.heap.size, 0, none⟩ = some (.string md) ∧ w'.cell? ⟨w3.heap.size, 1, none⟩ = some (.string mp) ∧ w'.cell? ⟨w3.heap.size, 2, none⟩ = some (.int .i64 mq) ∧ w'.cell? ⟨w5.heap.size, 0, none⟩ = some (.string md) ∧ w'.cell? ⟨w5.heap.size, 1, none⟩ = some (.string mp) ∧ w'.cell? ⟨w5.heap.size, 2, none⟩ = some (.int .i64 mq))) (X := (fun _ => false)) (by kernel_rfl) ?_
    have al : Below w6.heap.size w6 w6.drew := belowDrewN (Below.refl _ _) 1
    have hs_w7 := al.size
    replace RL := RL.below al
    replace RE := RE.below al
    replace RM := RM.below al
    replace RW := RW.below al
    replace hT := hT.below al
    replace hB := tr hB al (Nat.le_refl _)
    generalize w6.drew = w7 at *
    clear al
    have hS : (fun w' => w'.cell? ⟨w1.heap.size, 0, none⟩ = some (.string ld) ∧ w'.cell? ⟨w1.heap.size, 1, none⟩ = some (.string lp) ∧ w'.cell? ⟨w1.heap.size, 2, none⟩ = some (.int .i64 lq) ∧ w'.cell? ⟨w1.heap.size + 1, 0, none⟩ = some (.string ec) ∧ w'.cell? ⟨w1.heap.size + 1, 1, none⟩ = some (.string er) ∧ w'.cell? ⟨w3.heap.size, 0, none⟩ = some (.string md) ∧ w'.cell? ⟨w3.heap.size, 1, none⟩ = some (.string mp) ∧ w'.cell? ⟨w3.heap.size, 2, none⟩ = some (.int .i64 mq) ∧ w'.cell? ⟨w5.heap.size, 0, none⟩ = some (.string md) ∧ w'.cell? ⟨w5.heap.size, 1, none⟩ = some (.string mp) ∧ w'.cell? ⟨w5.heap.size, 2, none⟩ = some (.int .i64 mq)) w7 := ⟨RL.cells 0, RL.cells 1, RL.cells 2, RE.cells 0, RE.cells 1, RM.cells 0, RM.cells 1, RM.cells 2, RW.cells 0, RW.cells 1, RW.cells 2⟩
    refine AnyX.take (i := 0) (oi := _) (v := ?_) (by rw [List.getElem?_toArray]; rfl) (by kernel_rfl) (by kernel_rfl) (by kernel_rfl) (by kernel_rfl) (by kernel_rfl) (by exact fun _ _ _ h => h) (Or.inl ⟨by rfl, ?_⟩) hS ?_
    rotate_left
    · (intro wS hSw; (try dsimp only at hSw); go_simp; try with_reducible rfl)
    try simp only [Act.put, List.setIfInBounds_toArray, List.set_cons_zero, List.set_cons_succ]
    refine AnyX.take (i := 1) (oi := _) (v := ?_) (by rw [List.getElem?_toArray]; rfl) (by kernel_rfl) (by kernel_rfl) (by kernel_rfl) (by kernel_rfl) (by kernel_rfl) (by exact fun _ _ _ h => h) (Or.inl ⟨by rfl, ?_⟩) hS ?_
    rotate_left
    · (intro wS hSw; (try dsimp only at hSw); go_simp; try with_reducible rfl)
    try simp only [Act.put, List.setIfInBounds_toArray, List.set_cons_zero, List.set_cons_succ]
    refine AnyX.take (i := 2) (oi := _) (v := ?_) (by rw [List.getElem?_toArray]; rfl) (by kernel_rfl) (by kernel_rfl) (by kernel_rfl) (by kernel_rfl) (by kernel_rfl) (by exact fun _ _ _ h => h) (Or.inl ⟨by rfl, ?_⟩) hS ?_
    rotate_left
    · (intro wS hSw; (try dsimp only at hSw); go_simp; try with_reducible rfl)
    try simp only [Act.put, List.setIfInBounds_toArray, List.set_cons_zero, List.set_cons_succ]
    refine AnyX.take (i := 3) (oi := _) (v := ?_) (by rw [List.getElem?_toArray]; rfl) (by kernel_rfl) (by kernel_rfl) (by kernel_rfl) (by kernel_rfl) (by kernel_rfl) (by exact fun _ _ _ h => h) (Or.inl ⟨by rfl, ?_⟩) hS ?_
    rotate_left
    · (intro wS hSw; (try dsimp only at hSw); go_simp; try with_reducible rfl)
    try simp only [Act.put, List.setIfInBounds_toArray, List.set_cons_zero, List.set_cons_succ]
    refine AnyX.take (i := 4) (oi := _) (v := ?_) (by rw [List.getElem?_toArray]; rfl) (by kernel_rfl) (by kernel_rfl) (by kernel_rfl) (by kernel_rfl) (by kernel_rfl) (by exact fun _ _ _ h => h) (Or.inl ⟨by rfl, ?_⟩) hS ?_
    rotate_left
    · (intro wS hSw; (try dsimp only at hSw); go_simp; try with_reducible rfl)
    try simp only [Act.put, List.setIfInBounds_toArray, List.set_cons_zero, List.set_cons_succ]
    refine AnyX.take (i := 5) (oi := _) (v := ?_) (by rw [List.getElem?_toArray]; rfl) (by kernel_rfl) (by kernel_rfl) (by kernel_rfl) (by kernel_rfl) (by kernel_rfl) (by exact fun _ _ _ h => h) (Or.inl ⟨by rfl, ?_⟩) hS ?_
    rotate_left
    · (intro wS hSw; (try dsimp only at hSw); go_simp; try with_reducible rfl)
    try simp only [Act.put, List.setIfInBounds_toArray, List.set_cons_zero, List.set_cons_succ]
    refine AnyX.take (i := 6) (oi := _) (v := ?_) (by rw [List.getElem?_toArray]; rfl) (by kernel_rfl) (by kernel_rfl) (by kernel_rfl) (by kernel_rfl) (by kernel_rfl) (by exact fun _ _ _ h => h) (Or.inl ⟨by rfl, ?_⟩) hS ?_
    rotate_left
    · (intro wS hSw; (try dsimp only at hSw); go_simp; try with_reducible rfl)
    try simp only [Act.put, List.setIfInBounds_toArray, List.set_cons_zero, List.set_cons_succ]
    refine AnyX.take (i := 7) (oi := _) (v := ?_) (by rw [List.getElem?_toArray]; rfl) (by kernel_rfl) (by kernel_rfl) (by kernel_rfl) (by kernel_rfl) (by kernel_rfl) (by exact fun _ _ _ h => h) (Or.inl ⟨by rfl, ?_⟩) hS ?_
    rotate_left
    · (intro wS hSw; (try dsimp only at hSw); go_simp; try with_reducible rfl)
    try simp only [Act.put, List.setIfInBounds_toArray, List.set_cons_zero, List.set_cons_succ]
    refine AnyX.take (i := 8) (oi := _) (v := ?_) (by rw [List.getElem?_toArray]; rfl) (by kernel_rfl) (by kernel_rfl) (by kernel_rfl) (by kernel_rfl) (by kernel_rfl) (by exact fun _ _ _ h => h) (Or.inl ⟨by rfl, ?_⟩) hS ?_
    rotate_left
    · (intro wS hSw; (try dsimp only at hSw); go_simp; try with_reducible rfl)
    try simp only [Act.put, List.setIfInBounds_toArray, List.set_cons_zero, List.set_cons_succ]
    refine AnyX.take (i := 9) (oi := _) (v := ?_) (by rw [List.getElem?_toArray]; rfl) (by kernel_rfl) (by kernel_rfl) (by kernel_rfl) (by kernel_rfl) (by kernel_rfl) (by exact fun _ _ _ h => h) (Or.inl ⟨by rfl, ?_⟩) hS ?_
    rotate_left
    · (intro wS hSw; (try dsimp only at hSw); go_simp; try with_reducible rfl)
    try simp only [Act.put, List.setIfInBounds_toArray, List.set_cons_zero, List.set_cons_succ]
    refine AnyX.take (i := 11) (oi := _) (v := ?_) (by rw [List.getElem?_toArray]; rfl) (by kernel_rfl) (by kernel_rfl) (by kernel_rfl) (by kernel_rfl) (by kernel_rfl) (by exact fun _ _ _ h => h) (Or.inl ⟨by rfl, ?_⟩) hS ?_
    rotate_left
    · (intro wS hSw; (try dsimp only at hSw); go_simp; try with_reducible rfl)
    try simp only [Act.put, List.setIfInBounds_toArray, List.set_cons_zero, List.set_cons_succ]
    refine AnyX.only (i := 10) (o := _) (by kernel_rfl) (by rw [List.getElem?_toArray]; rfl) (fun K hK => ?_)
    go_simp
    go_at_call 23
    refine (hV.out _ hT).mono ?_
    rintro e w8 ⟨rfl, hb⟩
    have hs_w8 := hb.size
    replace RL := RL.below hb
    replace RE := RE.below hb
    replace RM := RM.below hb
    replace RW := RW.below hb
    replace hT := hT.below hb
    replace hB := tr hB hb (Nat.le_refl _)
    clear hb
    clear hS
    have hS : (fun w' => w'.cell? ⟨w1.heap.size, 0, none⟩ = some (.string ld) ∧ w'.cell? ⟨w1.heap.size, 1, none⟩ = some (.string lp) ∧ w'.cell? ⟨w1.heap.size, 2, none⟩ = some (.int .i64 lq) ∧ w'.cell? ⟨w1.heap.size + 1, 0, none⟩ = some (.string ec) ∧ w'.cell? ⟨w1.heap.size + 1, 1, none⟩ = some (.string er) ∧ w'.cell? ⟨w3.heap.size, 0, none⟩ = some (.string md) ∧ w'.cell? ⟨w3.heap.size, 1, none⟩ = some (.string mp) ∧ w'.cell? ⟨w3.heap.size, 2, none⟩ = some (.int .i64 mq) ∧ w'.cell? ⟨w5.heap.size, 0, none⟩ = some (.string md) ∧ w'.cell? ⟨w5.heap.size, 1, none⟩ = some (.string mp) ∧ w'.cell? ⟨w5.heap.size, 2, none⟩ = some (.int .i64 mq)) w8 := ⟨RL.cells 0, RL.cells 1, RL.cells 2, RE.cells 0, RE.cells 1, RM.cells 0, RM.cells 1, RM.cells 2, RW.cells 0, RW.cells 1, RW.cells 2⟩
    refine hK.out _ _ (fun _ => hS) ?_
    clear hK K
    try simp only [Act.put, List.setIfInBounds_toArray, List.set_cons_zero, List.set_cons_succ]
    refine AnyX.only (i := 12) (o := _) (by kernel_rfl) (by rw [List.getElem?_toArray]; rfl) (fun K hK => ?_)
    go_simp
    go_at_call 21
    refine (hV2.out _).mono ?_
    rintro e w9 ⟨rfl, hb⟩
    have hs_w9 := hb.size
    replace RL := RL.below hb
    replace RE := RE.below hb
    replace RM := RM.below hb
    replace RW := RW.below hb
    replace hT := hT.below hb
    replace hB := tr hB hb (Nat.le_refl _)
    clear hb
    clear hS
    have hS : (fun w' => w'.cell? ⟨w1.heap.size, 0, none⟩ = some (.string ld) ∧ w'.cell? ⟨w1.heap.size, 1, none⟩ = some (.string lp) ∧ w'.cell? ⟨w1.heap.size, 2, none⟩ = some (.int .i64 lq) ∧ w'.cell? ⟨w1.heap.size + 1, 0, none⟩ = some (.string ec) ∧ w'.cell? ⟨w1.heap.size + 1, 1, none⟩ = some (.string er) ∧ w'.cell? ⟨w3.heap.size, 0, none⟩ = some (.string md) ∧ w'.cell? ⟨w3.heap.size, 1, none⟩ = some (.string mp) ∧ w'.cell? ⟨w3.heap.size, 2, none⟩ = some (.int .i64 mq) ∧ w'.cell? ⟨w5.heap.size, 0, none⟩ = some (.string md) ∧ w'.cell? ⟨w5.heap.size, 1, none⟩ = some (.string mp) ∧ w'.cell? ⟨w5.heap.size, 2, none⟩ = some (.int .i64 mq)) w9 := ⟨RL.cells 0, RL.cells 1, RL.cells 2, RE.cells 0, RE.cells 1, RM.cells 0, RM.cells 1, RM.cells 2, RW.cells 0, RW.cells 1, RW.cells 2⟩
    refine hK.out _ _ (fun _ => hS) ?_
    clear hK K
    try simp only [Act.put, List.setIfInBounds_toArray, List.set_cons_zero, List.set_cons_succ]
    refine AnyX.take (i := 13) (oi := _) (v := ?_) (by rw [List.getElem?_toArray]; rfl) (by kernel_rfl) (by kernel_rfl) (by kernel_rfl) (by kernel_rfl) (by kernel_rfl) (by exact fun _ _ _ h => h) (Or.inl ⟨by rfl, ?_⟩) hS ?_
    rotate_left
    · (intro wS hSw; (try dsimp only at hSw); go_simp; try with_reducible rfl)
    try simp only [Act.put, List.setIfInBounds_toArray, List.set_cons_zero, List.set_cons_succ]
    refine AnyX.take (i := 14) (oi := _) (v := ?_) (by rw [List.getElem?_toArray]; rfl) (by kernel_rfl) (by kernel_rfl) (by kernel_rfl) (by kernel_rfl) (by kernel_rfl) (by exact fun _ _ _ h => h) (Or.inl ⟨by rfl, ?_⟩) hS ?_
    rotate_left
    · (intro wS hSw; (try dsimp only at hSw); go_simp; try with_reducible rfl)
    try simp only [Act.put, List.setIfInBounds_toArray, List.set_cons_zero, List.set_cons_succ]
    refine AnyX.take (i := 15) (oi := _) (v := ?_) (by rw [List.getElem?_toArray]; rfl) (by kernel_rfl) (by kernel_rfl) (by kernel_rfl) (by kernel_rfl) (by kernel_rfl) (by exact fun _ _ _ h => h) (Or.inl ⟨by rfl, ?_⟩) hS ?_
    rotate_left
    · (intro wS hSw; (try dsimp only at hSw); go_simp; try with_reducible rfl)
    try simp only [Act.put, List.setIfInBounds_toArray, List.set_cons_zero, List.set_cons_succ]
    refine AnyX.take (i := 16) (oi := _) (v := ?_) (by rw [List.getElem?_toArray]; rfl) (by kernel_rfl) (by kernel_rfl) (by kernel_rfl) (by kernel_rfl) (by kernel_rfl) (by exact fun _ _ _ h => h) (Or.inl ⟨by rfl, ?_⟩) hS ?_
    rotate_left
    · (intro wS hSw; (try dsimp only at hSw); go_simp; try with_reducible rfl)
    try simp only [Act.put, List.setIfInBounds_toArray, List.set_cons_zero, List.set_cons_succ]
    refine AnyX.take (i := 18) (oi := _) (v := ?_) (by rw [List.getElem?_toArray]; rfl) (by kernel_rfl) (by kernel_rfl) (by kernel_rfl) (by kernel_rfl) (by kernel_rfl) (by exact fun _ _ _ h => h) (Or.inl ⟨by rfl, ?_⟩) hS ?_
    rotate_left
    · (intro wS hSw; (try dsimp only at hSw); go_simp; try with_reducible rfl)
    try simp only [Act.put, List.setIfInBounds_toArray, List.set_cons_zero, List.set_cons_succ]
    refine AnyX.only (i := 17) (o := _) (by kernel_rfl) (by rw [List.getElem?_toArray]; rfl) (fun K hK => ?_)
    go_simp
    go_at_call 39
    refine (hW.out _).mono ?_
    rintro e w10 ⟨rfl, hb⟩
    have hs_w10 := hb.size
    replace RL := RL.below hb
    replace RE := RE.below hb
    replace RM := RM.below hb
    replace RW := RW.below hb
    replace hT := hT.below hb
    replace hB := tr hB hb (Nat.le_refl _)
    clear hb
    clear hS
    have hS : (fun w' => w'.cell? ⟨w1.heap.size, 0, none⟩ = some (.string ld) ∧ w'.cell? ⟨w1.heap.size, 1, none⟩ = some (.string lp) ∧ w'.cell? ⟨w1.heap.size, 2, none⟩ = some (.int .i64 lq) ∧ w'.cell? ⟨w1.heap.size + 1, 0, none⟩ = some (.string ec) ∧ w'.cell? ⟨w1.heap.size + 1, 1, none⟩ = some (.string er) ∧ w'.cell? ⟨w3.heap.size, 0, none⟩ = some (.string md) ∧ w'.cell? ⟨w3.heap.size, 1, none⟩ = some (.string mp) ∧ w'.cell? ⟨w3.heap.size, 2, none⟩ = some (.int .i64 mq) ∧ w'.cell? ⟨w5.heap.size, 0, none⟩ = some (.string md) ∧ w'.cell? ⟨w5.heap.size, 1, none⟩ = some (.string mp) ∧ w'.cell? ⟨w5.heap.size, 2, none⟩ = some (.int .i64 mq)) w10 := ⟨RL.cells 0, RL.cells 1, RL.cells 2, RE.cells 0, RE.cells 1, RM.cells 0, RM.cells 1, RM.cells 2, RW.cells 0, RW.cells 1, RW.cells 2⟩
    refine hK.out _ _ (fun _ => hS) ?_
    clear hK K
    try simp only [Act.put, List.setIfInBounds_toArray, List.set_cons_zero, List.set_cons_succ]
    refine AnyX.only (i := 19) (o := _) (by kernel_rfl) (by rw [List.getElem?_toArray]; rfl) (fun K hK => ?_)
    go_simp
    go_at_call 40
    refine (hW2.out _).mono ?_
    rintro e w11 ⟨rfl, hb⟩
    have hs_w11 := hb.size
    replace RL := RL.below hb
    replace RE := RE.below hb
    replace RM := RM.below hb
    replace RW := RW.below hb
    replace hT := hT.below hb
    replace hB := tr hB hb (Nat.le_refl _)
    clear hb
    clear hS
    have hS : (fun w' => w'.cell? ⟨w1.heap.size, 0, none⟩ = some (.string ld) ∧ w'.cell? ⟨w1.heap.size, 1, none⟩ = some (.string lp) ∧ w'.cell? ⟨w1.heap.size, 2, none⟩ = some (.int .i64 lq) ∧ w'.cell? ⟨w1.heap.size + 1, 0, none⟩ = some (.string ec) ∧ w'.cell? ⟨w1.heap.size + 1, 1, none⟩ = some (.string er) ∧ w'.cell? ⟨w3.heap.size, 0, none⟩ = some (.string md) ∧ w'.cell? ⟨w3.heap.size, 1, none⟩ = some (.string mp) ∧ w'.cell? ⟨w3.heap.size, 2, none⟩ = some (.int .i64 mq) ∧ w'.cell? ⟨w5.heap.size, 0, none⟩ = some (.string md) ∧ w'.cell? ⟨w5.heap.size, 1, none⟩ = some (.string mp) ∧ w'.cell? ⟨w5.heap.size, 2, none⟩ = some (.int .i64 mq)) w11 := ⟨RL.cells 0, RL.cells 1, RL.cells 2, RE.cells 0, RE.cells 1, RM.cells 0, RM.cells 1, RM.cells 2, RW.cells 0, RW.cells 1, RW.cells 2⟩
    refine hK.out _ _ (fun _ => hS) ?_
    clear hK K
    try simp only [Act.put, List.setIfInBounds_toArray, List.set_cons_zero, List.set_cons_succ]
    refine AnyX.take (i := 20) (oi := _) (v := ?_) (by rw [List.getElem?_toArray]; rfl) (by kernel_rfl) (by kernel_rfl) (by kernel_rfl) (by kernel_rfl) (by kernel_rfl) (by exact fun _ _ _ h => h) (Or.inl ⟨by rfl, ?_⟩) hS ?_
    rotate_left
    · (intro wS hSw; (try dsimp only at hSw); go_simp; try with_reducible rfl)
    try simp only [Act.put, List.setIfInBounds_toArray, List.set_cons_zero, List.set_cons_succ]
    refine AnyX.take (i := 21) (oi := _) (v := ?_) (by rw [List.getElem?_toArray]; rfl) (by kernel_rfl) (by kernel_rfl) (by kernel_rfl) (by kernel_rfl) (by kernel_rfl) (by exact fun _ _ _ h => h) (Or.inl ⟨by rfl, ?_⟩) hS ?_
    rotate_left
    · (intro wS hSw; (try dsimp only at hSw); go_simp; try with_reducible rfl)
    try simp only [Act.put, List.setIfInBounds_toArray, List.set_cons_zero, List.set_cons_succ]
    refine AnyX.done (by kernel_rfl) ?_ _
    (try clear hS)
    refine hK0 _ _ ?_
    clear hK0 K0
    have c_RL := RL.cells; have f_RL := RL.frozens
    have c_RE := RE.cells; have f_RE := RE.frozens
    have c_RM := RM.cells; have f_RM := RM.frozens
    have c_RW := RW.cells; have f_RW := RW.frozens
    skip
    clear c_RL f_RL c_RE f_RE c_RM f_RM c_RW f_RW
    rcases app_facts hres.out with ⟨hco, hml⟩ | ⟨rfl, hmok, ys, hyl, hro, hra, hmq, hrec, hsy⟩
    · obtain ⟨rfl, rfl, rfl⟩ : md = ld ∧ mp = lp ∧ mq = lq := by simpa using hml
      have hco2 : (co != 0) = true := by simpa using hco
      clear hml hco hres
      have c_RL := RL.cells; have f_RL := RL.frozens
      have c_RE := RE.cells; have f_RE := RE.frozens
      have c_RM := RM.cells; have f_RM := RM.frozens
      have c_RW := RW.cells; have f_RW := RW.frozens
      go_wp2_with fail
      go_ret
      exact ⟨rfl, hB⟩
    · dsimp only at hmq hrec hsy
      have hms := hmok.small
      dsimp only at hms
      have hm2 : md.size ≤ maxLen ∧ mp.size ≤ maxLen := by unfold maxLen; omega
      have hwm : wtLog ⟨md, mp, mq⟩ ≤ 1048576 := by unfold wtLog; dsimp only; omega
      have hbs : (md ++ mp).size ≤ 30000 := by simp only [ByteArray.size_append]; omega
      have hL := fun (w : World) (hT : IsV ETab w (.agg #[]) () FT) => LogRecords_c _ ⟨md, mp, mq⟩ [] FT w (isLog w md mp mq hm2.1 hm2.2) hwm hT
      rw [hra] at hL
      have hL2 := fun (w : World) (hT : IsV ETab w (.agg #[]) () FT) => LogRecords_c _ ⟨ld, lp, lq⟩ [] FT w (isLog w ld lp lq hm1.1 hm1.2) hwl hT
      rw [hro] at hL2
      have hR := fun (w : World) (hT : IsV ETab w (.agg #[]) () FT) => RecoverLog_c (md ++ mp) FT w (by unfold maxLen; omega) hT
      rw [hrec] at hR
      have hY := fun (w : World) (hT : IsV ETab w (.agg #[]) () FT) => SyncLog_c _ ⟨md, mp, mq⟩ [] FT w (isLog w md mp mq hm2.1 hm2.2) hwm hT
      rw [hsy] at hY
      have hVm := fun (w : World) (hT : IsV ETab w (.agg #[]) () FT) => IsValidLog_c _ ⟨md, mp, mq⟩ [] FT w (isLog w md mp mq hm2.1 hm2.2) hwm hT
      rw [show resIsValidLog ⟨md, mp, mq⟩ = true from hmok] at hVm
      obtain ⟨xs, hxs⟩ : ∃ xs, xs = ys ++ [⟨ec, er⟩] := ⟨_, rfl⟩
      rw [← hxs] at hL
      have hxl : xs.length = ys.length + 1 := by rw [hxs]; simp
      have hxy : ∀ j (h1 : j < xs.length) (h2 : j < ys.length), xs[j] = ys[j] := fun j h1 h2 => by simp only [hxs]; exact List.getElem_append_left h2
      have hxe : ∀ (h1 : ys.length < xs.length), xs[ys.length] = ⟨ec, er⟩ := fun h1 => by simp only [hxs]; simp
      generalize hmd : md ++ mp = mm at *
      obtain ⟨n, hyn⟩ : ∃ n, ys.length = n := ⟨_, rfl⟩
      rw [hyn] at hmq hyl hxl
      subst hmq
      replace hL := Lib.hid hL; replace hL2 := Lib.hid hL2; replace hR := Lib.hid hR; replace hY := Lib.hid hY; replace hVm := Lib.hid hVm; replace hxy := Lib.hid hxy; replace hxe := Lib.hid hxe; replace hxl := Lib.hid hxl; replace hyn := Lib.hid hyn
      clear hro hra hrec hsy hmok hxs hres hA hA2 hV hV2 hW hW2
      have c_RL := RL.cells; have f_RL := RL.frozens
      have c_RE := RE.cells; have f_RE := RE.frozens
      have c_RM := RM.cells; have f_RM := RM.frozens
      have c_RW := RW.cells; have f_RW := RW.frozens
      go_wp2_with fail
      clear c_RL f_RL c_RE f_RE c_RM f_RM c_RW f_RW
      refine (hL.out _ hT).mono ?_
      rintro e w12 ⟨u2, G2, rfl, o2, -, -, hb⟩
      have hs_w12 := hb.size
      replace RL := RL.below hb
      replace RE := RE.below hb
      replace RM := RM.below hb
      replace RW := RW.below hb
      replace hT := hT.below hb
      replace hB := tr hB hb (Nat.le_refl _)
      clear hb
      obtain ⟨F2, -, SA⟩ := o2.read
      clear o2
      obtain ⟨a2, c2, rfl⟩ := SA.slice
      rw [hxl.out] at SA ⊢
      have c_RL := RL.cells; have f_RL := RL.frozens
      have c_RE := RE.cells; have f_RE := RE.frozens
      have c_RM := RM.cells; have f_RM := RM.frozens
      have c_RW := RW.cells; have f_RW := RW.frozens
      go_wp2_with fail
      clear c_RL f_RL c_RE f_RE c_RM f_RM c_RW f_RW
      refine (hL2.out _ hT).mono ?_
      rintro e w13 ⟨u3, G3, rfl, o3, -, -, hb⟩
      have hs_w13 := hb.size
      replace RL := RL.below hb
      replace RE := RE.below hb
      replace RM := RM.below hb
      replace RW := RW.below hb
      replace hT := hT.below hb
      replace SA := SA.below (by decide) hb
      replace hB := tr hB hb (Nat.le_refl _)
      clear hb
      obtain ⟨F3, -, SO⟩ := o3.read
      clear o3
      obtain ⟨a3, c3, rfl⟩ := SO.slice
      rw [hyn.out] at SO ⊢
      have c_RL := RL.cells; have f_RL := RL.frozens
      have c_RE := RE.cells; have f_RE := RE.frozens
      have c_RM := RM.cells; have f_RM := RM.frozens
      have c_RW := RW.cells; have f_RW := RW.frozens
      go_wp2_with fail
      clear c_RL f_RL c_RE f_RE c_RM f_RM c_RW f_RW
      skip
      refine (hR.out _ hT).mono ?_
      rintro e w14 ⟨u4, G4, rfl, ⟨_, rfl, rfl, -, -, -⟩, -, -, hb⟩
      have hs_w14 := hb.size
      replace RL := RL.below hb
      replace RE := RE.below hb
      replace RM := RM.below hb
      replace RW := RW.below hb
      replace hT := hT.below hb
      replace SA := SA.below (by decide) hb
      replace SO := SO.below (by decide) hb
      replace hB := tr hB hb (Nat.le_refl _)
      clear hb
      replace hmd := Lib.hid hmd
      have c_RL := RL.cells; have f_RL := RL.frozens; have d_RL := fun o => (RL.alloc o).cells; have e_RL := fun o => (RL.alloc o).frozens
      have c_RE := RE.cells; have f_RE := RE.frozens; have d_RE := fun o => (RE.alloc o).cells; have e_RE := fun o => (RE.alloc o).frozens
      have c_RM := RM.cells; have f_RM := RM.frozens; have d_RM := fun o => (RM.alloc o).cells; have e_RM := fun o => (RM.alloc o).frozens
      have c_RW := RW.cells; have f_RW := RW.frozens; have d_RW := fun o => (RW.alloc o).cells; have e_RW := fun o => (RW.alloc o).frozens
      go_wp2_with fail
      clear c_RL f_RL d_RL e_RL c_RE f_RE d_RE e_RE c_RM f_RM d_RM e_RM c_RW f_RW d_RW e_RW
      have al : Below w14.heap.size w14 (w14.alloc (.cells #[.string mm, .string ⟨#[]⟩, .int .i64 ((n : Int) + 1)] 31)) := by
        repeat refine Below.alloc ?_ (by simp <;> omega) _
        exact Below.refl _ _
      have n_RB := Row.made w14 31 [.string mm, .string ⟨#[]⟩, .int .i64 ((n : Int) + 1)]
      have hs_w15 : w14.heap.size < (w14.alloc (.cells #[.string mm, .string ⟨#[]⟩, .int .i64 ((n : Int) + 1)] 31)).heap.size := by simp
      replace RL := RL.below al
      replace RE := RE.below al
      replace RM := RM.below al
      replace RW := RW.below al
      replace hT := hT.below al
      replace SA := SA.below (by decide) al
      replace SO := SO.below (by decide) al
      replace hB := tr hB al (Nat.le_refl _)
      generalize (w14.alloc (.cells #[.string mm, .string ⟨#[]⟩, .int .i64 ((n : Int) + 1)] 31)) = w15 at *
      have RB := n_RB; clear n_RB
      clear al
      have c_RL := RL.cells; have f_RL := RL.frozens
      have c_RE := RE.cells; have f_RE := RE.frozens
      have c_RM := RM.cells; have f_RM := RM.frozens
      have c_RW := RW.cells; have f_RW := RW.frozens
      have c_RB := RB.cells; have f_RB := RB.frozens
      go_wp2_with fail
      clear c_RL f_RL c_RE f_RE c_RM f_RM c_RW f_RW c_RB f_RB
      refine (hY.out _ hT).mono ?_
      rintro e w16 ⟨u5, G5, rfl, ⟨_, rfl, rfl, -, -, -⟩, -, -, hb⟩
      have hs_w16 := hb.size
      replace RL := RL.below hb
      replace RE := RE.below hb
      replace RM := RM.below hb
      replace RW := RW.below hb
      replace RB := RB.below hb
      replace hT := hT.below hb
      replace SA := SA.below (by decide) hb
      replace SO := SO.below (by decide) hb
      replace hB := tr hB hb (Nat.le_refl _)
      clear hb
      have c_RL := RL.cells; have f_RL := RL.frozens; have d_RL := fun o => (RL.alloc o).cells; have e_RL := fun o => (RL.alloc o).frozens
      have c_RE := RE.cells; have f_RE := RE.frozens; have d_RE := fun o => (RE.alloc o).cells; have e_RE := fun o => (RE.alloc o).frozens
      have c_RM := RM.cells; have f_RM := RM.frozens; have d_RM := fun o => (RM.alloc o).cells; have e_RM := fun o => (RM.alloc o).frozens
      have c_RW := RW.cells; have f_RW := RW.frozens; have d_RW := fun o => (RW.alloc o).cells; have e_RW := fun o => (RW.alloc o).frozens
      have c_RB := RB.cells; have f_RB := RB.frozens; have d_RB := fun o => (RB.alloc o).cells; have e_RB := fun o => (RB.alloc o).frozens
      go_wp2_with fail
      clear c_RL f_RL d_RL e_RL c_RE f_RE d_RE e_RE c_RM f_RM d_RM e_RM c_RW f_RW d_RW e_RW c_RB f_RB d_RB e_RB
      have al : Below w16.heap.size w16 (w16.alloc (.cells #[.string mm, .string ⟨#[]⟩, .int .i64 ((n : Int) + 1)] 31)) := by
        repeat refine Below.alloc ?_ (by simp <;> omega) _
        exact Below.refl _ _
      have n_RS := Row.made w16 31 [.string mm, .string ⟨#[]⟩, .int .i64 ((n : Int) + 1)]
      have hs_w17 : w16.heap.size < (w16.alloc (.cells #[.string mm, .string ⟨#[]⟩, .int .i64 ((n : Int) + 1)] 31)).heap.size := by simp
      replace RL := RL.below al
      replace RE := RE.below al
      replace RM := RM.below al
      replace RW := RW.below al
      replace RB := RB.below al
      replace hT := hT.below al
      replace SA := SA.below (by decide) al
      replace SO := SO.below (by decide) al
      replace hB := tr hB al (Nat.le_refl _)
      generalize (w16.alloc (.cells #[.string mm, .string ⟨#[]⟩, .int .i64 ((n : Int) + 1)] 31)) = w17 at *
      have RS := n_RS; clear n_RS
      clear al
      have c_RL := RL.cells; have f_RL := RL.frozens
      have c_RE := RE.cells; have f_RE := RE.frozens
      have c_RM := RM.cells; have f_RM := RM.frozens
      have c_RW := RW.cells; have f_RW := RW.frozens
      have c_RB := RB.cells; have f_RB := RB.frozens
      have c_RS := RS.cells; have f_RS := RS.frozens
      go_wp2_with fail
      clear c_RL f_RL c_RE f_RE c_RM f_RM c_RW f_RW c_RB f_RB c_RS f_RS
      go_loopw [18] (fun i wr => ∃ j : Nat, j ≤ n ∧ i = .int .i64 j ∧ Below w17.heap.size w17 wr) (fun i _ => n - (intOf i).toNat)
      case atStart => exact ⟨0, Nat.zero_le _, rfl, Below.refl _ _⟩
      case round =>
        obtain ⟨j, hj, rfl, hbl⟩ := hrel
        have hs_wr := hbl.size
        replace RL := RL.below hbl
        replace RE := RE.below hbl
        replace RM := RM.below hbl
        replace RW := RW.below hbl
        replace RB := RB.below hbl
        replace RS := RS.below hbl
        replace hT := hT.below hbl
        replace SA := SA.below (by decide) hbl
        replace SO := SO.below (by decide) hbl
        replace hB := tr hB hbl (Nat.le_refl _)
        have hlx := hxl.out
        have hly := hyn.out
        by_cases hlt : j < n
        · have h1 : j < xs.length := by omega
          have h2 : j < ys.length := by omega
          obtain ⟨ba, oa, _, F_, hva, hx, -, ja⟩ := SA.at j h1
          obtain ⟨bb, ob, _, G_, hvb, hy, -, jb⟩ := SO.at j h2
          obtain ⟨rfl, z1, z2, rfl⟩ := id hx
          obtain ⟨rfl, t1, t2, rfl⟩ := id hy
          have a0 := ja 0 (by decide); have b0 := jb 0 (by decide)
          have a1 := ja 1 (by decide); have b1 := jb 1 (by decide)
          simp only [show ELogRecord.sz = 2 from rfl, Nat.mul_one, Nat.add_zero, List.getElem?_cons_zero, List.getElem?_cons_succ] at a0 b0 a1 b1
          rw [hxy.out j h1 h2] at a0 a1
          clear ja jb hx hy z1 z2 t1 t2
          generalize ys[j] = zz at *
          obtain rfl : a2 = _ := hva
          obtain rfl : a3 = _ := hvb
          replace hlx := Lib.hid hlx; replace hly := Lib.hid hly
          have hbr := Below.refl wr.heap.size wr
          go_wp2_with fail
          rename_i K0 hK0
          refine AnyX.start (S := (fun w' => w'.cell? ⟨ba, oa + j * 2, none⟩ = some (.string zz.command) ∧ w'.cell? ⟨ba, oa + j * 2 + 1, none⟩ = some (.string zz.reply) ∧ w'.cell? ⟨bb, ob + j * 2, none⟩ = some (.string zz.command) ∧ w'.cell? ⟨bb, ob + j * 2 + 1, none⟩ = some (.string zz.reply))) (X := (fun _ => false)) (by kernel_rfl) ?_
          have al : Below wr.heap.size wr wr.drew := belowDrewN (Below.refl _ _) 1
          have hs_w18 := al.size
          replace hbr := tr hbr al (Nat.le_refl _)
          replace hB := tr hB al (Nat.le_refl _)
          generalize wr.drew = w18 at *
          clear al
          have hS : (fun w' => w'.cell? ⟨ba, oa + j * 2, none⟩ = some (.string zz.command) ∧ w'.cell? ⟨ba, oa + j * 2 + 1, none⟩ = some (.string zz.reply) ∧ w'.cell? ⟨bb, ob + j * 2, none⟩ = some (.string zz.command) ∧ w'.cell? ⟨bb, ob + j * 2 + 1, none⟩ = some (.string zz.reply)) w18 := ⟨kc hbr a0, kc hbr a1, kc hbr b0, kc hbr b1⟩
          refine AnyX.take (i := 0) (oi := _) (v := ?_) (by rw [List.getElem?_toArray]; rfl) (by kernel_rfl) (by kernel_rfl) (by kernel_rfl) (by kernel_rfl) (by kernel_rfl) (by exact fun _ _ _ h => h) (Or.inl ⟨by rfl, ?_⟩) hS ?_
          rotate_left
          · (intro wS hSw; (try dsimp only at hSw); go_simp; try with_reducible rfl)
          try simp only [Act.put, List.setIfInBounds_toArray, List.set_cons_zero, List.set_cons_succ]
          refine AnyX.take (i := 1) (oi := _) (v := ?_) (by rw [List.getElem?_toArray]; rfl) (by kernel_rfl) (by kernel_rfl) (by kernel_rfl) (by kernel_rfl) (by kernel_rfl) (by exact fun _ _ _ h => h) (Or.inl ⟨by rfl, ?_⟩) hS ?_
          rotate_left
          · (intro wS hSw; (try dsimp only at hSw); go_simp; try with_reducible rfl)
          try simp only [Act.put, List.setIfInBounds_toArray, List.set_cons_zero, List.set_cons_succ]
          refine AnyX.take (i := 2) (oi := _) (v := ?_) (by rw [List.getElem?_toArray]; rfl) (by kernel_rfl) (by kernel_rfl) (by kernel_rfl) (by kernel_rfl) (by kernel_rfl) (by exact fun _ _ _ h => h) (Or.inl ⟨by rfl, ?_⟩) hS ?_
          rotate_left
          · (intro wS hSw; (try dsimp only at hSw); go_simp; rw [if_pos (by omega)]; try with_reducible rfl)
          try simp only [Act.put, List.setIfInBounds_toArray, List.set_cons_zero, List.set_cons_succ]
          refine AnyX.take (i := 3) (oi := _) (v := ?_) (by rw [List.getElem?_toArray]; rfl) (by kernel_rfl) (by kernel_rfl) (by kernel_rfl) (by kernel_rfl) (by kernel_rfl) (by exact fun _ _ _ h => h) (Or.inl ⟨by rfl, ?_⟩) hS ?_
          rotate_left
          · (intro wS hSw; (try dsimp only at hSw); go_simp; try with_reducible rfl)
          try simp only [Act.put, List.setIfInBounds_toArray, List.set_cons_zero, List.set_cons_succ]
          refine AnyX.take (i := 4) (oi := _) (v := ?_) (by rw [List.getElem?_toArray]; rfl) (by kernel_rfl) (by kernel_rfl) (by kernel_rfl) (by kernel_rfl) (by kernel_rfl) (by exact fun _ _ _ h => h) (Or.inl ⟨by rfl, ?_⟩) hS ?_
          rotate_left
          · (intro wS hSw; (try dsimp only at hSw); go_simp; try with_reducible rfl)
          try simp only [Act.put, List.setIfInBounds_toArray, List.set_cons_zero, List.set_cons_succ]
          refine AnyX.take (i := 5) (oi := _) (v := ?_) (by rw [List.getElem?_toArray]; rfl) (by kernel_rfl) (by kernel_rfl) (by kernel_rfl) (by kernel_rfl) (by kernel_rfl) (by exact fun _ _ _ h => h) (Or.inl ⟨by rfl, ?_⟩) hS ?_
          rotate_left
          · (intro wS hSw; (try dsimp only at hSw); go_simp; try with_reducible rfl)
          try simp only [Act.put, List.setIfInBounds_toArray, List.set_cons_zero, List.set_cons_succ]
          refine AnyX.take (i := 6) (oi := _) (v := ?_) (by rw [List.getElem?_toArray]; rfl) (by kernel_rfl) (by kernel_rfl) (by kernel_rfl) (by kernel_rfl) (by kernel_rfl) (by exact fun _ _ _ h => h) (Or.inl ⟨by rfl, ?_⟩) hS ?_
          rotate_left
          · (intro wS hSw; (try dsimp only at hSw); go_simp; try with_reducible rfl)
          try simp only [Act.put, List.setIfInBounds_toArray, List.set_cons_zero, List.set_cons_succ]
          refine AnyX.take (i := 7) (oi := _) (v := ?_) (by rw [List.getElem?_toArray]; rfl) (by kernel_rfl) (by kernel_rfl) (by kernel_rfl) (by kernel_rfl) (by kernel_rfl) (by exact fun _ _ _ h => h) (Or.inl ⟨by rfl, ?_⟩) hS ?_
          rotate_left
          · (intro wS hSw; (try dsimp only at hSw); go_simp; try with_reducible rfl)
          try simp only [Act.put, List.setIfInBounds_toArray, List.set_cons_zero, List.set_cons_succ]
          refine AnyX.take (i := 8) (oi := _) (v := ?_) (by rw [List.getElem?_toArray]; rfl) (by kernel_rfl) (by kernel_rfl) (by kernel_rfl) (by kernel_rfl) (by kernel_rfl) (by exact fun _ _ _ h => h) (Or.inl ⟨by rfl, ?_⟩) hS ?_
          rotate_left
          · (intro wS hSw; (try dsimp only at hSw); go_simp; try with_reducible rfl)
          try simp only [Act.put, List.setIfInBounds_toArray, List.set_cons_zero, List.set_cons_succ]
          refine AnyX.done (by kernel_rfl) ?_ _
          (try clear hS)
          refine hK0 _ _ ?_
          clear hK0 K0
          go_wp2_with fail
          exact ⟨⟨j + 1, by omega, by go_num, tr hbl hbr (Nat.le_refl _)⟩, by simp [intOf] <;> omega⟩
        · obtain ⟨ba, oa, _, F_, hva, hx, -, ja⟩ := SA.at n (by omega)
          obtain ⟨rfl, z1, z2, rfl⟩ := id hx
          have a0 := ja 0 (by decide)
          have a1 := ja 1 (by decide)
          simp only [show ELogRecord.sz = 2 from rfl, Nat.mul_one, Nat.add_zero, List.getElem?_cons_zero, List.getElem?_cons_succ] at a0 a1
          have hxe2 := hxe.out (by omega)
          have hq : xs[n]'(by omega) = ⟨ec, er⟩ := by simpa only [hyn.out] using hxe2
          rw [hq] at a0 a1
          dsimp only at a0 a1
          clear ja hx z1 z2 hxe2 hq
          obtain rfl : a2 = _ := hva
          replace hlx := Lib.hid hlx; replace hly := Lib.hid hly
          have hbr := Below.refl wr.heap.size wr
          clear SA SO
          have c_RL := RL.cells; have f_RL := RL.frozens
          have c_RE := RE.cells; have f_RE := RE.frozens
          have c_RM := RM.cells; have f_RM := RM.frozens
          have c_RW := RW.cells; have f_RW := RW.frozens
          have c_RB := RB.cells; have f_RB := RB.frozens
          have c_RS := RS.cells; have f_RS := RS.frozens
          go_wp2_with fail
          clear c_RL f_RL c_RE f_RE c_RM f_RM c_RW f_RW c_RB f_RB c_RS f_RS
          rename_i K0 hK0
          refine AnyX.start (S := (fun w' => w'.cell? ⟨w1.heap.size + 1, 0, none⟩ = some (.string ec) ∧ w'.cell? ⟨w1.heap.size + 1, 1, none⟩ = some (.string er) ∧ w'.cell? ⟨w3.heap.size, 0, none⟩ = some (.string md) ∧ w'.cell? ⟨w3.heap.size, 1, none⟩ = some (.string mp) ∧ w'.cell? ⟨w3.heap.size, 2, none⟩ = some (.int .i64 ((n : Int) + 1)) ∧ w'.cell? ⟨w14.heap.size, 0, none⟩ = some (.string mm) ∧ w'.cell? ⟨w14.heap.size, 1, none⟩ = some (.string ⟨#[]⟩) ∧ w'.cell? ⟨w14.heap.size, 2, none⟩ = some (.int .i64 ((n : Int) + 1)) ∧ w'.cell? ⟨w16.heap.size, 0, none⟩ = some (.string mm) ∧ w'.cell? ⟨w16.heap.size, 1, none⟩ = some (.string ⟨#[]⟩) ∧ w'.cell? ⟨w16.heap.size, 2, none⟩ = some (.int .i64 ((n : Int) + 1)) ∧ w'.cell? ⟨ba, oa + n * 2, none⟩ = some (.string ec) ∧ w'.cell? ⟨ba, oa + n * 2 + 1, none⟩ = some (.string er))) (X := (fun _ => false)) (by kernel_rfl) ?_
          have al : Below wr.heap.size wr wr.drew := belowDrewN (Below.refl _ _) 1
          have hs_w19 := al.size
          replace hbr := tr hbr al (Nat.le_refl _)
          replace RL := RL.below al
          replace RE := RE.below al
          replace RM := RM.below al
          replace RW := RW.below al
          replace RB := RB.below al
          replace RS := RS.below al
          replace hT := hT.below al
          replace hB := tr hB al (Nat.le_refl _)
          generalize wr.drew = w19 at *
          clear al
          have hS : (fun w' => w'.cell? ⟨w1.heap.size + 1, 0, none⟩ = some (.string ec) ∧ w'.cell? ⟨w1.heap.size + 1, 1, none⟩ = some (.string er) ∧ w'.cell? ⟨w3.heap.size, 0, none⟩ = some (.string md) ∧ w'.cell? ⟨w3.heap.size, 1, none⟩ = some (.string mp) ∧ w'.cell? ⟨w3.heap.size, 2, none⟩ = some (.int .i64 ((n : Int) + 1)) ∧ w'.cell? ⟨w14.heap.size, 0, none⟩ = some (.string mm) ∧ w'.cell? ⟨w14.heap.size, 1, none⟩ = some (.string ⟨#[]⟩) ∧ w'.cell? ⟨w14.heap.size, 2, none⟩ = some (.int .i64 ((n : Int) + 1)) ∧ w'.cell? ⟨w16.heap.size, 0, none⟩ = some (.string mm) ∧ w'.cell? ⟨w16.heap.size, 1, none⟩ = some (.string ⟨#[]⟩) ∧ w'.cell? ⟨w16.heap.size, 2, none⟩ = some (.int .i64 ((n : Int) + 1)) ∧ w'.cell? ⟨ba, oa + n * 2, none⟩ = some (.string ec) ∧ w'.cell? ⟨ba, oa + n * 2 + 1, none⟩ = some (.string er)) w19 := ⟨RE.cells 0, RE.cells 1, RM.cells 0, RM.cells 1, RM.cells 2, RB.cells 0, RB.cells 1, RB.cells 2, RS.cells 0, RS.cells 1, RS.cells 2, kc hbr a0, kc hbr a1⟩
          refine AnyX.take (i := 0) (oi := _) (v := ?_) (by rw [List.getElem?_toArray]; rfl) (by kernel_rfl) (by kernel_rfl) (by kernel_rfl) (by kernel_rfl) (by kernel_rfl) (by exact fun _ _ _ h => h) (Or.inl ⟨by rfl, ?_⟩) hS ?_
          rotate_left
          · (intro wS hSw; (try dsimp only at hSw); go_simp; try with_reducible rfl)
          try simp only [Act.put, List.setIfInBounds_toArray, List.set_cons_zero, List.set_cons_succ]
          refine AnyX.take (i := 1) (oi := _) (v := ?_) (by rw [List.getElem?_toArray]; rfl) (by kernel_rfl) (by kernel_rfl) (by kernel_rfl) (by kernel_rfl) (by kernel_rfl) (by exact fun _ _ _ h => h) (Or.inl ⟨by rfl, ?_⟩) hS ?_
          rotate_left
          · (intro wS hSw; (try dsimp only at hSw); go_simp; try with_reducible rfl)
          try simp only [Act.put, List.setIfInBounds_toArray, List.set_cons_zero, List.set_cons_succ]
          refine AnyX.take (i := 2) (oi := _) (v := ?_) (by rw [List.getElem?_toArray]; rfl) (by kernel_rfl) (by kernel_rfl) (by kernel_rfl) (by kernel_rfl) (by kernel_rfl) (by exact fun _ _ _ h => h) (Or.inl ⟨by rfl, ?_⟩) hS ?_
          rotate_left
          · (intro wS hSw; (try dsimp only at hSw); go_simp; try with_reducible rfl)
          try simp only [Act.put, List.setIfInBounds_toArray, List.set_cons_zero, List.set_cons_succ]
          refine AnyX.take (i := 3) (oi := _) (v := ?_) (by rw [List.getElem?_toArray]; rfl) (by kernel_rfl) (by kernel_rfl) (by kernel_rfl) (by kernel_rfl) (by kernel_rfl) (by exact fun _ _ _ h => h) (Or.inl ⟨by rfl, ?_⟩) hS ?_
          rotate_left
          · (intro wS hSw; (try dsimp only at hSw); go_simp; rw [if_pos (by omega)]; try with_reducible rfl)
          try simp only [Act.put, List.setIfInBounds_toArray, List.set_cons_zero, List.set_cons_succ]
          refine AnyX.take (i := 4) (oi := _) (v := ?_) (by rw [List.getElem?_toArray]; rfl) (by kernel_rfl) (by kernel_rfl) (by kernel_rfl) (by kernel_rfl) (by kernel_rfl) (by exact fun _ _ _ h => h) (Or.inl ⟨by rfl, ?_⟩) hS ?_
          rotate_left
          · (intro wS hSw; (try dsimp only at hSw); go_simp; try with_reducible rfl)
          try simp only [Act.put, List.setIfInBounds_toArray, List.set_cons_zero, List.set_cons_succ]
          refine AnyX.take (i := 5) (oi := _) (v := ?_) (by rw [List.getElem?_toArray]; rfl) (by kernel_rfl) (by kernel_rfl) (by kernel_rfl) (by kernel_rfl) (by kernel_rfl) (by exact fun _ _ _ h => h) (Or.inl ⟨by rfl, ?_⟩) hS ?_
          rotate_left
          · (intro wS hSw; (try dsimp only at hSw); go_simp; try with_reducible rfl)
          try simp only [Act.put, List.setIfInBounds_toArray, List.set_cons_zero, List.set_cons_succ]
          refine AnyX.take (i := 6) (oi := _) (v := ?_) (by rw [List.getElem?_toArray]; rfl) (by kernel_rfl) (by kernel_rfl) (by kernel_rfl) (by kernel_rfl) (by kernel_rfl) (by exact fun _ _ _ h => h) (Or.inl ⟨by rfl, ?_⟩) hS ?_
          rotate_left
          · (intro wS hSw; (try dsimp only at hSw); go_simp; try with_reducible rfl)
          try simp only [Act.put, List.setIfInBounds_toArray, List.set_cons_zero, List.set_cons_succ]
          refine AnyX.take (i := 7) (oi := _) (v := ?_) (by rw [List.getElem?_toArray]; rfl) (by kernel_rfl) (by kernel_rfl) (by kernel_rfl) (by kernel_rfl) (by kernel_rfl) (by exact fun _ _ _ h => h) (Or.inl ⟨by rfl, ?_⟩) hS ?_
          rotate_left
          · (intro wS hSw; (try dsimp only at hSw); go_simp; try with_reducible rfl)
          try simp only [Act.put, List.setIfInBounds_toArray, List.set_cons_zero, List.set_cons_succ]
          refine AnyX.take (i := 8) (oi := _) (v := ?_) (by rw [List.getElem?_toArray]; rfl) (by kernel_rfl) (by kernel_rfl) (by kernel_rfl) (by kernel_rfl) (by kernel_rfl) (by exact fun _ _ _ h => h) (Or.inl ⟨by rfl, ?_⟩) hS ?_
          rotate_left
          · (intro wS hSw; (try dsimp only at hSw); go_simp; try with_reducible rfl)
          try simp only [Act.put, List.setIfInBounds_toArray, List.set_cons_zero, List.set_cons_succ]
          refine AnyX.take (i := 9) (oi := _) (v := ?_) (by rw [List.getElem?_toArray]; rfl) (by kernel_rfl) (by kernel_rfl) (by kernel_rfl) (by kernel_rfl) (by kernel_rfl) (by exact fun _ _ _ h => h) (Or.inl ⟨by rfl, ?_⟩) hS ?_
          rotate_left
          · (intro wS hSw; (try dsimp only at hSw); go_simp; try with_reducible rfl)
          try simp only [Act.put, List.setIfInBounds_toArray, List.set_cons_zero, List.set_cons_succ]
          refine AnyX.take (i := 10) (oi := _) (v := ?_) (by rw [List.getElem?_toArray]; rfl) (by kernel_rfl) (by kernel_rfl) (by kernel_rfl) (by kernel_rfl) (by kernel_rfl) (by exact fun _ _ _ h => h) (Or.inl ⟨by rfl, ?_⟩) hS ?_
          rotate_left
          · (intro wS hSw; (try dsimp only at hSw); go_simp; try with_reducible rfl)
          try simp only [Act.put, List.setIfInBounds_toArray, List.set_cons_zero, List.set_cons_succ]
          refine AnyX.take (i := 11) (oi := _) (v := ?_) (by rw [List.getElem?_toArray]; rfl) (by kernel_rfl) (by kernel_rfl) (by kernel_rfl) (by kernel_rfl) (by kernel_rfl) (by exact fun _ _ _ h => h) (Or.inl ⟨by rfl, ?_⟩) hS ?_
          rotate_left
          · (intro wS hSw; (try dsimp only at hSw); go_simp; try with_reducible rfl)
          try simp only [Act.put, List.setIfInBounds_toArray, List.set_cons_zero, List.set_cons_succ]
          refine AnyX.take (i := 12) (oi := _) (v := ?_) (by rw [List.getElem?_toArray]; rfl) (by kernel_rfl) (by kernel_rfl) (by kernel_rfl) (by kernel_rfl) (by kernel_rfl) (by exact fun _ _ _ h => h) (Or.inl ⟨by rfl, ?_⟩) hS ?_
          rotate_left
          · (intro wS hSw; (try dsimp only at hSw); go_simp; try with_reducible rfl)
          try simp only [Act.put, List.setIfInBounds_toArray, List.set_cons_zero, List.set_cons_succ]
          refine AnyX.take (i := 13) (oi := _) (v := ?_) (by rw [List.getElem?_toArray]; rfl) (by kernel_rfl) (by kernel_rfl) (by kernel_rfl) (by kernel_rfl) (by kernel_rfl) (by exact fun _ _ _ h => h) (Or.inl ⟨by rfl, ?_⟩) hS ?_
          rotate_left
          · (intro wS hSw; (try dsimp only at hSw); go_simp; try with_reducible rfl)
          try simp only [Act.put, List.setIfInBounds_toArray, List.set_cons_zero, List.set_cons_succ]
          refine AnyX.take (i := 14) (oi := _) (v := ?_) (by rw [List.getElem?_toArray]; rfl) (by kernel_rfl) (by kernel_rfl) (by kernel_rfl) (by kernel_rfl) (by kernel_rfl) (by exact fun _ _ _ h => h) (Or.inl ⟨by rfl, ?_⟩) hS ?_
          rotate_left
          · (intro wS hSw; (try dsimp only at hSw); go_simp; try with_reducible rfl)
          try simp only [Act.put, List.setIfInBounds_toArray, List.set_cons_zero, List.set_cons_succ]
          refine AnyX.take (i := 15) (oi := _) (v := ?_) (by rw [List.getElem?_toArray]; rfl) (by kernel_rfl) (by kernel_rfl) (by kernel_rfl) (by kernel_rfl) (by kernel_rfl) (by exact fun _ _ _ h => h) (Or.inl ⟨by rfl, ?_⟩) hS ?_
          rotate_left
          · (intro wS hSw; (try dsimp only at hSw); go_simp; try with_reducible rfl)
          try simp only [Act.put, List.setIfInBounds_toArray, List.set_cons_zero, List.set_cons_succ]
          refine AnyX.take (i := 16) (oi := _) (v := ?_) (by rw [List.getElem?_toArray]; rfl) (by kernel_rfl) (by kernel_rfl) (by kernel_rfl) (by kernel_rfl) (by kernel_rfl) (by exact fun _ _ _ h => h) (Or.inl ⟨by rfl, ?_⟩) hS ?_
          rotate_left
          · (intro wS hSw; (try dsimp only at hSw); go_simp; rw [if_neg (by omega), hmd.out]; try with_reducible rfl)
          try simp only [Act.put, List.setIfInBounds_toArray, List.set_cons_zero, List.set_cons_succ]
          refine AnyX.take (i := 17) (oi := _) (v := ?_) (by rw [List.getElem?_toArray]; rfl) (by kernel_rfl) (by kernel_rfl) (by kernel_rfl) (by kernel_rfl) (by kernel_rfl) (by exact fun _ _ _ h => h) (Or.inl ⟨by rfl, ?_⟩) hS ?_
          rotate_left
          · (intro wS hSw; (try dsimp only at hSw); go_simp; try with_reducible rfl)
          try simp only [Act.put, List.setIfInBounds_toArray, List.set_cons_zero, List.set_cons_succ]
          refine AnyX.take (i := 18) (oi := _) (v := ?_) (by rw [List.getElem?_toArray]; rfl) (by kernel_rfl) (by kernel_rfl) (by kernel_rfl) (by kernel_rfl) (by kernel_rfl) (by exact fun _ _ _ h => h) (Or.inl ⟨by rfl, ?_⟩) hS ?_
          rotate_left
          · (intro wS hSw; (try dsimp only at hSw); go_simp; try with_reducible rfl)
          try simp only [Act.put, List.setIfInBounds_toArray, List.set_cons_zero, List.set_cons_succ]
          refine AnyX.take (i := 19) (oi := _) (v := ?_) (by rw [List.getElem?_toArray]; rfl) (by kernel_rfl) (by kernel_rfl) (by kernel_rfl) (by kernel_rfl) (by kernel_rfl) (by exact fun _ _ _ h => h) (Or.inl ⟨by rfl, ?_⟩) hS ?_
          rotate_left
          · (intro wS hSw; (try dsimp only at hSw); go_simp; try with_reducible rfl)
          try simp only [Act.put, List.setIfInBounds_toArray, List.set_cons_zero, List.set_cons_succ]
          refine AnyX.take (i := 20) (oi := _) (v := ?_) (by rw [List.getElem?_toArray]; rfl) (by kernel_rfl) (by kernel_rfl) (by kernel_rfl) (by kernel_rfl) (by kernel_rfl) (by exact fun _ _ _ h => h) (Or.inl ⟨by rfl, ?_⟩) hS ?_
          rotate_left
          · (intro wS hSw; (try dsimp only at hSw); go_simp; try with_reducible rfl)
          try simp only [Act.put, List.setIfInBounds_toArray, List.set_cons_zero, List.set_cons_succ]
          refine AnyX.take (i := 21) (oi := _) (v := ?_) (by rw [List.getElem?_toArray]; rfl) (by kernel_rfl) (by kernel_rfl) (by kernel_rfl) (by kernel_rfl) (by kernel_rfl) (by exact fun _ _ _ h => h) (Or.inl ⟨by rfl, ?_⟩) hS ?_
          rotate_left
          · (intro wS hSw; (try dsimp only at hSw); go_simp; try with_reducible rfl)
          try simp only [Act.put, List.setIfInBounds_toArray, List.set_cons_zero, List.set_cons_succ]
          refine AnyX.take (i := 22) (oi := _) (v := ?_) (by rw [List.getElem?_toArray]; rfl) (by kernel_rfl) (by kernel_rfl) (by kernel_rfl) (by kernel_rfl) (by kernel_rfl) (by exact fun _ _ _ h => h) (Or.inl ⟨by rfl, ?_⟩) hS ?_
          rotate_left
          · (intro wS hSw; (try dsimp only at hSw); go_simp; try with_reducible rfl)
          try simp only [Act.put, List.setIfInBounds_toArray, List.set_cons_zero, List.set_cons_succ]
          refine AnyX.take (i := 23) (oi := _) (v := ?_) (by rw [List.getElem?_toArray]; rfl) (by kernel_rfl) (by kernel_rfl) (by kernel_rfl) (by kernel_rfl) (by kernel_rfl) (by exact fun _ _ _ h => h) (Or.inl ⟨by rfl, ?_⟩) hS ?_
          rotate_left
          · (intro wS hSw; (try dsimp only at hSw); go_simp; try with_reducible rfl)
          try simp only [Act.put, List.setIfInBounds_toArray, List.set_cons_zero, List.set_cons_succ]
          refine AnyX.take (i := 24) (oi := _) (v := ?_) (by rw [List.getElem?_toArray]; rfl) (by kernel_rfl) (by kernel_rfl) (by kernel_rfl) (by kernel_rfl) (by kernel_rfl) (by exact fun _ _ _ h => h) (Or.inl ⟨by rfl, ?_⟩) hS ?_
          rotate_left
          · (intro wS hSw; (try dsimp only at hSw); go_simp; try with_reducible rfl)
          try simp only [Act.put, List.setIfInBounds_toArray, List.set_cons_zero, List.set_cons_succ]
          refine AnyX.take (i := 25) (oi := _) (v := ?_) (by rw [List.getElem?_toArray]; rfl) (by kernel_rfl) (by kernel_rfl) (by kernel_rfl) (by kernel_rfl) (by kernel_rfl) (by exact fun _ _ _ h => h) (Or.inl ⟨by rfl, ?_⟩) hS ?_
          rotate_left
          · (intro wS hSw; (try dsimp only at hSw); go_simp; try with_reducible rfl)
          try simp only [Act.put, List.setIfInBounds_toArray, List.set_cons_zero, List.set_cons_succ]
          refine AnyX.take (i := 26) (oi := _) (v := ?_) (by rw [List.getElem?_toArray]; rfl) (by kernel_rfl) (by kernel_rfl) (by kernel_rfl) (by kernel_rfl) (by kernel_rfl) (by exact fun _ _ _ h => h) (Or.inl ⟨by rfl, ?_⟩) hS ?_
          rotate_left
          · (intro wS hSw; (try dsimp only at hSw); go_simp; try with_reducible rfl)
          try simp only [Act.put, List.setIfInBounds_toArray, List.set_cons_zero, List.set_cons_succ]
          refine AnyX.take (i := 27) (oi := _) (v := ?_) (by rw [List.getElem?_toArray]; rfl) (by kernel_rfl) (by kernel_rfl) (by kernel_rfl) (by kernel_rfl) (by kernel_rfl) (by exact fun _ _ _ h => h) (Or.inl ⟨by rfl, ?_⟩) hS ?_
          rotate_left
          · (intro wS hSw; (try dsimp only at hSw); go_simp; try with_reducible rfl)
          try simp only [Act.put, List.setIfInBounds_toArray, List.set_cons_zero, List.set_cons_succ]
          refine AnyX.take (i := 28) (oi := _) (v := ?_) (by rw [List.getElem?_toArray]; rfl) (by kernel_rfl) (by kernel_rfl) (by kernel_rfl) (by kernel_rfl) (by kernel_rfl) (by exact fun _ _ _ h => h) (Or.inl ⟨by rfl, ?_⟩) hS ?_
          rotate_left
          · (intro wS hSw; (try dsimp only at hSw); go_simp; try with_reducible rfl)
          try simp only [Act.put, List.setIfInBounds_toArray, List.set_cons_zero, List.set_cons_succ]
          refine AnyX.take (i := 29) (oi := _) (v := ?_) (by rw [List.getElem?_toArray]; rfl) (by kernel_rfl) (by kernel_rfl) (by kernel_rfl) (by kernel_rfl) (by kernel_rfl) (by exact fun _ _ _ h => h) (Or.inl ⟨by rfl, ?_⟩) hS ?_
          rotate_left
          · (intro wS hSw; (try dsimp only at hSw); go_simp; try with_reducible rfl)
          try simp only [Act.put, List.setIfInBounds_toArray, List.set_cons_zero, List.set_cons_succ]
          refine AnyX.only (i := 30) (o := _) (by kernel_rfl) (by rw [List.getElem?_toArray]; rfl) (fun K hK => ?_)
          go_simp
          go_at_call 23
          refine (hVm.out _ hT).mono ?_
          rintro e w20 ⟨rfl, hb⟩
          have hs_w20 := hb.size
          replace hbr := tr hbr hb (Nat.le_refl _)
          replace RL := RL.below hb
          replace RE := RE.below hb
          replace RM := RM.below hb
          replace RW := RW.below hb
          replace RB := RB.below hb
          replace RS := RS.below hb
          replace hT := hT.below hb
          replace hB := tr hB hb (Nat.le_refl _)
          clear hb
          clear hS
          have hS : (fun w' => w'.cell? ⟨w1.heap.size + 1, 0, none⟩ = some (.string ec) ∧ w'.cell? ⟨w1.heap.size + 1, 1, none⟩ = some (.string er) ∧ w'.cell? ⟨w3.heap.size, 0, none⟩ = some (.string md) ∧ w'.cell? ⟨w3.heap.size, 1, none⟩ = some (.string mp) ∧ w'.cell? ⟨w3.heap.size, 2, none⟩ = some (.int .i64 ((n : Int) + 1)) ∧ w'.cell? ⟨w14.heap.size, 0, none⟩ = some (.string mm) ∧ w'.cell? ⟨w14.heap.size, 1, none⟩ = some (.string ⟨#[]⟩) ∧ w'.cell? ⟨w14.heap.size, 2, none⟩ = some (.int .i64 ((n : Int) + 1)) ∧ w'.cell? ⟨w16.heap.size, 0, none⟩ = some (.string mm) ∧ w'.cell? ⟨w16.heap.size, 1, none⟩ = some (.string ⟨#[]⟩) ∧ w'.cell? ⟨w16.heap.size, 2, none⟩ = some (.int .i64 ((n : Int) + 1)) ∧ w'.cell? ⟨ba, oa + n * 2, none⟩ = some (.string ec) ∧ w'.cell? ⟨ba, oa + n * 2 + 1, none⟩ = some (.string er)) w20 := ⟨RE.cells 0, RE.cells 1, RM.cells 0, RM.cells 1, RM.cells 2, RB.cells 0, RB.cells 1, RB.cells 2, RS.cells 0, RS.cells 1, RS.cells 2, kc hbr a0, kc hbr a1⟩
          refine hK.out _ _ (fun _ => hS) ?_
          clear hK K
          try simp only [Act.put, List.setIfInBounds_toArray, List.set_cons_zero, List.set_cons_succ]
          refine AnyX.take (i := 31) (oi := _) (v := ?_) (by rw [List.getElem?_toArray]; rfl) (by kernel_rfl) (by kernel_rfl) (by kernel_rfl) (by kernel_rfl) (by kernel_rfl) (by exact fun _ _ _ h => h) (Or.inl ⟨by rfl, ?_⟩) hS ?_
          rotate_left
          · (intro wS hSw; (try dsimp only at hSw); go_simp; try with_reducible rfl)
          try simp only [Act.put, List.setIfInBounds_toArray, List.set_cons_zero, List.set_cons_succ]
          refine AnyX.only (i := 32) (o := _) (by kernel_rfl) (by rw [List.getElem?_toArray]; rfl) (fun K hK => ?_)
          try go_simp
          clear hS
          have hS : (fun w' => w'.cell? ⟨w1.heap.size + 1, 0, none⟩ = some (.string ec) ∧ w'.cell? ⟨w1.heap.size + 1, 1, none⟩ = some (.string er) ∧ w'.cell? ⟨w3.heap.size, 0, none⟩ = some (.string md) ∧ w'.cell? ⟨w3.heap.size, 1, none⟩ = some (.string mp) ∧ w'.cell? ⟨w3.heap.size, 2, none⟩ = some (.int .i64 ((n : Int) + 1)) ∧ w'.cell? ⟨w14.heap.size, 0, none⟩ = some (.string mm) ∧ w'.cell? ⟨w14.heap.size, 1, none⟩ = some (.string ⟨#[]⟩) ∧ w'.cell? ⟨w14.heap.size, 2, none⟩ = some (.int .i64 ((n : Int) + 1)) ∧ w'.cell? ⟨w16.heap.size, 0, none⟩ = some (.string mm) ∧ w'.cell? ⟨w16.heap.size, 1, none⟩ = some (.string ⟨#[]⟩) ∧ w'.cell? ⟨w16.heap.size, 2, none⟩ = some (.int .i64 ((n : Int) + 1)) ∧ w'.cell? ⟨ba, oa + n * 2, none⟩ = some (.string ec) ∧ w'.cell? ⟨ba, oa + n * 2 + 1, none⟩ = some (.string er)) w20 := ⟨RE.cells 0, RE.cells 1, RM.cells 0, RM.cells 1, RM.cells 2, RB.cells 0, RB.cells 1, RB.cells 2, RS.cells 0, RS.cells 1, RS.cells 2, kc hbr a0, kc hbr a1⟩
          refine hK.out _ _ (fun _ => hS) ?_
          clear hK K
          try simp only [Act.put, List.setIfInBounds_toArray, List.set_cons_zero, List.set_cons_succ]
          refine AnyX.done (by kernel_rfl) ?_ _
          (try clear hS)
          refine hK0 _ _ ?_
          clear hK0 K0
          go_wp2_with fail
          go_ret
          exact ⟨rfl, hB⟩
set_option maxRecDepth 100000 in
theorem lifted_FnLog (os : Os) (started : os.Started) (H : Type) (enc : TypeId × Value → H) :
    ReturnsInHanded {} Tryd.checked os 11 .any (fun w args => (Rows.fnLogSpec.pre enc Tryd.prog Tryd.f11 Rows.fnLogRow.domain false w args ∧ laidMetH Tryd.prog Rows.fnLogRow.laid w) ∧ sizedMet enc Tryd.prog Tryd.f11 (OpenSpec.ofChange Rows.fnLogSpec) false w args)
      (Rows.fnLogSpec.post enc Tryd.prog Tryd.f11 false true false false) := by
  refine returnsInHanded_of_change_and (C := Tryd.checked) (X := fun w _ => laidMetH Tryd.prog Rows.fnLogRow.laid w) (fun _ _ _ hh h => h.of_heap hh) (by kernel_rfl) started (by kernel_rfl) Tryd.func11
    (ChangeSpec.witness_shaped (enc := enc) (C := Tryd.checked) (os := os) (X := fun w _ => laidMetH Tryd.prog Rows.fnLogRow.laid w) false (World.laidAll Tryd.prog os Rows.fnLogRow.laid) #[.slice none 0 0] 8 (World.laidAll_os _ _ _)
      (World.shaped_of_ZipB (by kernel_rfl) (by kernel_rfl)) (by kernel_rfl) (by kernel_rfl) (by kernel_rfl)
      (by rw [MakeChecks.laidMetH_plain _ _ _ (by kernel_rfl)]; exact laidMet_laidAll _ (by kernel_rfl) (by kernel_rfl))) ?_
  intro W base args ds gs before hval0 hW hc_ _ hL _
  have hval : ∀ (j : Nat) t v, Tryd.f11.params[j]? = some t → args[j]? = some v → Value.okWide Tryd.prog W .any base t v := hval0
  have hW' := hW
  obtain ⟨p, q, hA0, hV, rfl, hfz, hnd⟩ := hW
  have hA : DataW.TrodAll enc Tryd.prog W 0 (fun _ => true) true Tryd.f11.params.toList args.toList ds p := hA0
  rw [Tryd.params11] at hA hval
  obtain ⟨v0, d0, rfl, rfl, h0⟩ := trodAll_one hA
  obtain ⟨a0, l0, c0, rfl⟩ := okWide_slice Tryd.underlying53 (hval 0 53 v0 rfl rfl)
  obtain ⟨fuel0, hf0⟩ := h0
  obtain ⟨x0, F0, u0, hu0, hs0⟩ := (reads_slice Tryd.underlying53 (by kernel_rfl) (by decide) reads_byte) hf0
  obtain rfl : Value.slice a0 l0 c0 = u0 := by simpa [Value.cells] using hu0
  have hT := tab_of_laid hL
  refine (law_FnLog _ x0 F0 _ W hs0 hT).mono fun e W' ⟨he, hB⟩ => ⟨_, he, law_post (tb := 4) (by kernel_rfl) ?_ Tryd.underlying4 (by kernel_rfl) rfl rfl hW' hB⟩
  rw [Tryd.params11]
  simp only [List.mem_cons, List.not_mem_nil, or_false, forall_eq]
  exact ⟨by kernel_rfl, of_decide_eq_true (by kernel_rfl)⟩
theorem holds_FnLog : Rows.FnLogSaid :=
  OpenClaim.holds_of_wide 11 Tryd.f11 rfl rfl rfl rfl rfl rfl rfl ⟨rfl, rfl, rfl, rfl, rfl⟩ rfl rfl rfl rfl rfl (by kernel_rfl) Tryd.func11 (by kernel_rfl)
    (of_decide_eq_true (by kernel_rfl)) (by unfold Func.isWrapper; first | (rw [if_pos (by decide +kernel)]; kernel_rfl) | (rw [if_neg (by decide +kernel)]; exact ⟨rfl, rfl⟩))
    (fun os started H enc _ => lifted_FnLog os started H enc)
/-- no parameter wants a stand-in; the looks are off -/
theorem plain_FnLog (f : FuncId) (fn : Func) (hf : Tryd.pinned.checked.prog.funcNamed "loop.example/g00840/laws.FnLog" = some f) (hfn : Tryd.pinned.checked.prog.funcs[f]? = some fn) :
    false = Tryd.pinned.checked.prog.looks [] ∧ ∀ (j : Nat) t, fn.params[j]? = some t → Tryd.pinned.checked.prog.wantsStandIn t = false := by
  obtain rfl : f = 11 := Option.some.inj ((show Tryd.prog.funcNamed "loop.example/g00840/laws.FnLog" = some 11 by kernel_rfl).symm.trans hf) |>.symm
  obtain rfl : fn = Tryd.f11 := (Option.some.inj (Tryd.func11.symm.trans hfn)).symm
  refine ⟨by kernel_rfl, fun j t ht => ?_⟩
  rw [Tryd.params11] at ht
  have hm : t ∈ [53] := by simpa using Array.mem_of_getElem? ht
  have hall : ([53].all fun u => !Tryd.prog.wantsStandIn u) = true := by kernel_rfl
  exact (show Tryd.prog.wantsStandIn t = false by simpa using List.all_eq_true.1 hall t hm)
theorem card_FnLog : Rows.FnLogCardSaid :=
  Claim7.holds_tied_plain_at .later [] _ _ _ _ holds_FnLog (fun _ h => by cases h) (by kernel_rfl) (fun _ h => by cases h) fnLog_row_tie rfl ⟨rfl, rfl⟩ (by kernel_rfl) rfl plain_FnLog (by kernel_rfl)
end Go.Proofs.YtnmgaponnfjciaaDoor
