/- The law FnLogLines: the walk of the law itself out of the contracts of its functions. No condition beyond the form's own reach. -/
import Derived.Test.YtnmgaponnfjciaaDoorDrawsLog2
import Derived.Test.YtnmgaponnfjciaaDoorDrawsLog3
import Derived.Test.YtnmgaponnfjciaaDoorCRecoverLog
import Derived.Test.YtnmgaponnfjciaaDoorCSyncLog
import Derived.Test.YtnmgaponnfjciaaDoorCIsValidLog
import Derived.Test.YtnmgaponnfjciaaDoorCEncodeRecord
import Derived.Test.YtnmgaponnfjciaaDoorLogPlain2
import Derived.Test.YtnmgaponnfjciaaDoorLaw
import Derived.Test.YtnmgaponnfjciaaDoorCards
import Derived.Test.YtnmgaponnfjciaaDoorTie
import Derived.LaidMore
import Derived.Lay
import Derived.SevenTiedAt
import Derived.Stop.Joined
import Derived.Test.YtnmgaponnfjciaaDoorTab
import Derived.Test.YtnmgaponnfjciaaDoorLaw2
namespace Go.Proofs.YtnmgaponnfjciaaDoor
open Go.RowKit Go.ChangeShapes Go.WideShapes Go.ChangeAt
theorem vBig_c (v : Value) (code : List Int) (F : List Nat) (w : World) (h : Sl EByte w v code F) : Calls Tryd.prog 35 #[v] w fun e w' => e = .returned (.bool (decide (65536 < (code.length : Int)))) ∧ w = w' := by
  obtain ⟨a, c, rfl⟩ := h.slice
  have hl := h.len; unfold maxLen at hl
  go_enter Tryd.func35, Tryd.ntmps35
  go_wp2
  go_ret
  exact ⟨rfl, rfl⟩
theorem reads_byte : Reads Tryd.prog EByte 5 := fun h => by
  obtain ⟨n, rfl, _, hw⟩ := DataW.trod_int Tryd.underlying5 h
  have hb := bounds_u8 hw
  exact ⟨n, [], rfl, hb.1, hb.2, rfl⟩
theorem lt_of_reads {w v} {code : List Int} {F} (h : Sl EByte w v code F) : ∀ b ∈ F, b < w.heap.size := h.lt (by decide)
/-- an encoded record is recovered at its place alone -/
theorem enc_rec {k : Int} {e : LogRecord} {s : ByteArray} {ok : Bool} (h : resEncodeRecord k e = (s, ok)) :
    (ok = false ∧ s = ⟨#[]⟩) ∨ (ok = true ∧ s.size ≤ 400 ∧ ∃ (x : Log) (f : Nat) (t : Bool), resRecoverLog s = (x, (f : Int), t) ∧ ((k = 0 ∧ 0 < f ∧ x.count = 1) ∨ (k ≠ 0 ∧ f = 0))) := by
  unfold resEncodeRecord encL at h
  split at h
  · rename_i h1
    simp only [Bool.and_eq_true, btw, decide_eq_true_eq] at h1
    obtain ⟨⟨k0, k1⟩, hg⟩ := h1
    have hG := goodL_good hg
    simp only [Option.getD_some, Option.isSome_some, Prod.mk.injEq] at h
    obtain ⟨rfl, rfl⟩ := h
    right
    have hl := lineL_len (k := k.toNat) (c := e.command.data.toList) (r := e.reply.data.toList) (by omega) hG
    have hsz : (bs (lineL k.toNat e.command.data.toList e.reply.data.toList)).size ≤ 400 := by rw [bs_size]; omega
    refine ⟨rfl, hsz, ?_⟩
    have hz := okL_zero (k := k.toNat) (by omega) hg
    have hw := linesOf_wholes (xs := [lineL k.toNat e.command.data.toList e.reply.data.toList]) [] (fun x hx => by simp only [List.mem_singleton] at hx; subst hx; exact lineL_whole hG)
    have ho : opened (bs (lineL k.toNat e.command.data.toList e.reply.data.toList)).data.toList = if k.toNat = 0 then [lineL k.toNat e.command.data.toList e.reply.data.toList] else [] := by
      rw [bs_list]
      unfold opened
      simp only [List.flatten_cons, List.flatten_nil, List.append_nil, linesOf] at hw
      rw [hw]
      by_cases hk : k.toNat = 0
      · rw [if_pos hk]; unfold acc; rw [hz, decide_eq_true hk]; rfl
      · rw [if_neg hk]; unfold acc; rw [hz, decide_eq_false hk]; rfl
    unfold resRecoverLog
    rw [if_pos (by omega), ho]
    by_cases hk : k.toNat = 0
    · rw [if_pos hk]
      refine ⟨_, _, _, rfl, .inl ⟨by omega, ?_, by simp⟩⟩
      simp only [List.flatten_cons, List.flatten_nil, List.append_nil]
      have := digit_pos k.toNat
      simp [lineL]
    · rw [if_neg hk]
      exact ⟨_, _, _, rfl, .inr ⟨by omega, rfl⟩⟩
  · left
    simp only [Option.getD_none, Option.isSome_none, Prod.mk.injEq] at h
    obtain ⟨rfl, rfl⟩ := h
    exact ⟨rfl, rfl⟩
/-- what is recovered is synchronized already -/
theorem rec_sync (t : ByteArray) : ∃ (m : Log) (f : Nat) (told : Bool), resRecoverLog t = (m, (f : Int), told) ∧ okLog m ∧ m.pending = ⟨#[]⟩ ∧ resSyncLog m = (m, true) ∧ resIsValidLog m = true := by
  have key : ∀ m : Log, okLog m → m.pending = ⟨#[]⟩ → resSyncLog m = (m, true) ∧ resIsValidLog m = true := fun m h1 h2 => by
    refine ⟨?_, h1⟩
    rw [h1.sync.1, ← h2]
    obtain ⟨d, p, q⟩ := m
    simp only at h2
    subst h2
    have : d ++ (⟨#[]⟩ : ByteArray) = d := by apply ByteArray.ext; simp [ByteArray.data_append]
    rw [this]
  unfold resRecoverLog
  split
  · have hv := (Valid.recovered t.data.toList).bool
    have ho : okLog ⟨bs (opened t.data.toList).flatten, ⟨#[]⟩, ((opened t.data.toList).length : Nat)⟩ := by unfold okLog; rw [bs_list]; exact hv
    exact ⟨_, _, _, rfl, ho, rfl, (key _ ho rfl).1, (key _ ho rfl).2⟩
  · exact ⟨_, 0, _, rfl, okLog.zero, rfl, (key _ okLog.zero rfl).1, (key _ okLog.zero rfl).2⟩
set_option maxHeartbeats 8000000 in
set_option maxRecDepth 100000 in
theorem law_FnLogLines (v0 : Value) (code : List Int) (F0 : List Nat) (FT : List Nat) (w : World) (h0 : Sl EByte w v0 code F0) (hT : IsV ETab w (.agg #[]) () FT) :
    Calls Tryd.prog 10 #[v0] w fun e' w' => e' = .returned (.bool true) ∧ Below w.heap.size w w' := by
  have hFT := hT.lt
  obtain ⟨a, c, rfl⟩ := h0.slice
  have hBg := fun w h => vBig_c (.slice a code.length c) code F0 w h
  have hcl := h0.len; unfold maxLen at hcl
  by_cases hbig : 65536 < code.length
  · rw [decide_eq_true (by omega)] at hBg
    replace hBg := Lib.hid hBg
    go_enter Tryd.func10, Tryd.ntmps10
    go_wp2_with fail
    refine (hBg.out _ h0).mono ?_
    rintro e w' ⟨rfl, rfl⟩
    go_wp2_with fail
    go_ret
    exact ⟨rfl, Below.refl _ _⟩
  · rw [decide_eq_false (by omega)] at hBg
    replace hBg := Lib.hid hBg
    go_enter Tryd.func10, Tryd.ntmps10
    go_wp2_with fail
    refine (hBg.out _ h0).mono ?_
    rintro e w' ⟨rfl, rfl⟩
    go_wp2_with fail
    have hB := Below.refl w.heap.size w
    refine (DrawEncodeRecord_c _ code F0 _ h0).mono ?_
    rintro e w1 ⟨k, cc, rr, hcc, hrr, rfl, hb⟩
    have hs_w1 := hb.size
    replace hT := hT.below hb
    replace h0 := h0.below (by decide) hb
    replace hB := tr hB hb (Nat.le_refl _)
    clear hb
    go_wp2_with fail
    have al : Below w1.heap.size w1 (w1.alloc (.cells #[.string cc, .string rr] 27)) := by
      repeat refine Below.alloc ?_ (by simp <;> omega) _
      exact Below.refl _ _
    have n_RE := Row.made w1 27 [.string cc, .string rr]
    have hs_w2 : w1.heap.size < (w1.alloc (.cells #[.string cc, .string rr] 27)).heap.size := by simp
    replace hT := hT.below al
    replace h0 := h0.below (by decide) al
    replace hB := tr hB al (Nat.le_refl _)
    generalize (w1.alloc (.cells #[.string cc, .string rr] 27)) = w2 at *
    have RE := n_RE; clear n_RE
    clear al
    have hE := fun (w : World) (hT : IsV ETab w (.agg #[]) () FT) => EncodeRecord_c k _ ⟨cc, rr⟩ [] FT w ⟨_, rfl, rfl, by unfold maxLen; dsimp only; omega, by unfold maxLen; dsimp only; omega, rfl⟩ hT
    have hE2 := fun (w : World) => specEncodeRecord_c k _ ⟨cc, rr⟩ [] w ⟨_, rfl, rfl, by unfold maxLen; dsimp only; omega, by unfold maxLen; dsimp only; omega, rfl⟩
    obtain ⟨s, ok, hres⟩ : ∃ s ok, resEncodeRecord k ⟨cc, rr⟩ = (s, ok) := ⟨_, _, rfl⟩
    rw [hres] at hE hE2
    have hen := enc_rec hres
    replace hE := Lib.hid hE; replace hE2 := Lib.hid hE2; replace hen := Lib.hid hen
    clear hres
    have c_RE := RE.cells; have f_RE := RE.frozens
    go_wp2_with fail
    clear c_RE f_RE
    refine (hE.out _ hT).mono ?_
    rintro e w3 ⟨rfl, hb⟩
    have hs_w3 := hb.size
    replace RE := RE.below hb
    replace hT := hT.below hb
    replace h0 := h0.below (by decide) hb
    replace hB := tr hB hb (Nat.le_refl _)
    clear hb
    have c_RE := RE.cells; have f_RE := RE.frozens
    go_wp2_with fail
    clear c_RE f_RE
    refine (hE2.out _).mono ?_
    rintro e w4 ⟨rfl, hb⟩
    have hs_w4 := hb.size
    replace RE := RE.below hb
    replace hT := hT.below hb
    replace h0 := h0.below (by decide) hb
    replace hB := tr hB hb (Nat.le_refl _)
    clear hb
    have c_RE := RE.cells; have f_RE := RE.frozens
    go_wp2_with fail
    clear c_RE f_RE
    refine (DrawRecoverLog_c _ code F0 _ h0).mono ?_
    rintro e w5 ⟨t, ht, rfl, hb⟩
    have hs_w5 := hb.size
    replace RE := RE.below hb
    replace hT := hT.below hb
    replace h0 := h0.below (by decide) hb
    replace hB := tr hB hb (Nat.le_refl _)
    clear hb
    obtain ⟨⟨md, mp, mq⟩, f, told, hrec, hok, hmp, hsy, hiv⟩ := rec_sync t
    simp only at hmp
    subst hmp
    have hms := hok.small
    dsimp only at hms
    have hR := fun (w : World) (hT : IsV ETab w (.agg #[]) () FT) => RecoverLog_c t FT w (by unfold maxLen; omega) hT
    have hR2 := fun (w : World) => specRecoverLog_c t w (by unfold maxLen; omega)
    rw [hrec] at hR hR2
    have hY := fun (w : World) (hT : IsV ETab w (.agg #[]) () FT) => SyncLog_c _ ⟨md, ⟨#[]⟩, mq⟩ [] FT w (isLog w md ⟨#[]⟩ mq (by unfold maxLen; omega) (by decide)) (by unfold wtLog; dsimp only; omega) hT
    rw [hsy] at hY
    have hV := fun (w : World) (hT : IsV ETab w (.agg #[]) () FT) => IsValidLog_c _ ⟨md, ⟨#[]⟩, mq⟩ [] FT w (isLog w md ⟨#[]⟩ mq (by unfold maxLen; omega) (by decide)) (by unfold wtLog; dsimp only; omega) hT
    rw [hiv] at hV
    replace hR := Lib.hid hR; replace hR2 := Lib.hid hR2; replace hY := Lib.hid hY; replace hV := Lib.hid hV
    clear hrec hok hsy hiv
    have c_RE := RE.cells; have f_RE := RE.frozens
    go_wp2_with fail
    clear c_RE f_RE
    refine (hR.out _ hT).mono ?_
    rintro e w6 ⟨u0, G0, rfl, ⟨_, rfl, rfl, -, -, -⟩, -, -, hb⟩
    have hs_w6 := hb.size
    replace RE := RE.below hb
    replace hT := hT.below hb
    replace h0 := h0.below (by decide) hb
    replace hB := tr hB hb (Nat.le_refl _)
    clear hb
    have c_RE := RE.cells; have f_RE := RE.frozens
    go_wp2_with fail
    clear c_RE f_RE
    have al : Below w6.heap.size w6 (w6.alloc (.cells #[.string md, .string ⟨#[]⟩, .int .i64 mq] 31)) := by
      repeat refine Below.alloc ?_ (by simp <;> omega) _
      exact Below.refl _ _
    have n_RM := Row.made w6 31 [.string md, .string ⟨#[]⟩, .int .i64 mq]
    have hs_w7 : w6.heap.size < (w6.alloc (.cells #[.string md, .string ⟨#[]⟩, .int .i64 mq] 31)).heap.size := by simp
    replace RE := RE.below al
    replace hT := hT.below al
    replace h0 := h0.below (by decide) al
    replace hB := tr hB al (Nat.le_refl _)
    generalize (w6.alloc (.cells #[.string md, .string ⟨#[]⟩, .int .i64 mq] 31)) = w7 at *
    have RM := n_RM; clear n_RM
    clear al
    have c_RE := RE.cells; have f_RE := RE.frozens
    have c_RM := RM.cells; have f_RM := RM.frozens
    go_wp2_with fail
    clear c_RE f_RE c_RM f_RM
    refine (hR2.out _).mono ?_
    rintro e w8 ⟨u1, G1, rfl, ⟨_, rfl, rfl, -, -, -⟩, hb⟩
    have hs_w8 := hb.size
    replace RE := RE.below hb
    replace RM := RM.below hb
    replace hT := hT.below hb
    replace h0 := h0.below (by decide) hb
    replace hB := tr hB hb (Nat.le_refl _)
    clear hb
    have c_RE := RE.cells; have f_RE := RE.frozens; have d_RE := fun o => (RE.alloc o).cells; have e_RE := fun o => (RE.alloc o).frozens
    have c_RM := RM.cells; have f_RM := RM.frozens; have d_RM := fun o => (RM.alloc o).cells; have e_RM := fun o => (RM.alloc o).frozens
    go_wp2_with fail
    clear c_RE f_RE d_RE e_RE c_RM f_RM d_RM e_RM
    have al : Below w8.heap.size w8 (w8.alloc (.cells #[.string md, .string ⟨#[]⟩, .int .i64 mq] 31)) := by
      repeat refine Below.alloc ?_ (by simp <;> omega) _
      exact Below.refl _ _
    have n_RW := Row.made w8 31 [.string md, .string ⟨#[]⟩, .int .i64 mq]
    have hs_w9 : w8.heap.size < (w8.alloc (.cells #[.string md, .string ⟨#[]⟩, .int .i64 mq] 31)).heap.size := by simp
    replace RE := RE.below al
    replace RM := RM.below al
    replace hT := hT.below al
    replace h0 := h0.below (by decide) al
    replace hB := tr hB al (Nat.le_refl _)
    generalize (w8.alloc (.cells #[.string md, .string ⟨#[]⟩, .int .i64 mq] 31)) = w9 at *
    have RW := n_RW; clear n_RW
    clear al
    have c_RE := RE.cells; have f_RE := RE.frozens
    have c_RM := RM.cells; have f_RM := RM.frozens
    have c_RW := RW.cells; have f_RW := RW.frozens
    go_wp2_with fail
    clear c_RE f_RE c_RM f_RM c_RW f_RW
    rcases hen.out with ⟨rfl, rfl⟩ | ⟨rfl, hss, ⟨xd, xp, xq⟩, fx, tx, hrx, hfx⟩
    · obtain ⟨⟨xd, xp, xq⟩, fx, tx, hrx, -⟩ := rec_sync ⟨#[]⟩
      have hX := fun (w : World) (hT : IsV ETab w (.agg #[]) () FT) => RecoverLog_c ⟨#[]⟩ FT w (by decide) hT
      rw [hrx] at hX
      replace hX := Lib.hid hX
      clear hrx hen
      refine (hX.out _ hT).mono ?_
      rintro e w10 ⟨u2, G2, rfl, ⟨_, rfl, rfl, -, -, -⟩, -, -, hb⟩
      have hs_w10 := hb.size
      replace RE := RE.below hb
      replace RM := RM.below hb
      replace RW := RW.below hb
      replace hT := hT.below hb
      replace h0 := h0.below (by decide) hb
      replace hB := tr hB hb (Nat.le_refl _)
      clear hb
      have c_RE := RE.cells; have f_RE := RE.frozens; have d_RE := fun o => (RE.alloc o).cells; have e_RE := fun o => (RE.alloc o).frozens
      have c_RM := RM.cells; have f_RM := RM.frozens; have d_RM := fun o => (RM.alloc o).cells; have e_RM := fun o => (RM.alloc o).frozens
      have c_RW := RW.cells; have f_RW := RW.frozens; have d_RW := fun o => (RW.alloc o).cells; have e_RW := fun o => (RW.alloc o).frozens
      go_wp2_with fail
      clear c_RE f_RE d_RE e_RE c_RM f_RM d_RM e_RM c_RW f_RW d_RW e_RW
      have al : Below w10.heap.size w10 (w10.alloc (.cells #[.string xd, .string xp, .int .i64 xq] 31)) := by
        repeat refine Below.alloc ?_ (by simp <;> omega) _
        exact Below.refl _ _
      have n_RX := Row.made w10 31 [.string xd, .string xp, .int .i64 xq]
      have hs_w11 : w10.heap.size < (w10.alloc (.cells #[.string xd, .string xp, .int .i64 xq] 31)).heap.size := by simp
      replace RE := RE.below al
      replace RM := RM.below al
      replace RW := RW.below al
      replace hT := hT.below al
      replace h0 := h0.below (by decide) al
      replace hB := tr hB al (Nat.le_refl _)
      generalize (w10.alloc (.cells #[.string xd, .string xp, .int .i64 xq] 31)) = w11 at *
      have RX := n_RX; clear n_RX
      clear al
      have c_RE := RE.cells; have f_RE := RE.frozens
      have c_RM := RM.cells; have f_RM := RM.frozens
      have c_RW := RW.cells; have f_RW := RW.frozens
      have c_RX := RX.cells; have f_RX := RX.frozens
      go_wp2_with fail
      clear c_RE f_RE c_RM f_RM c_RW f_RW c_RX f_RX
      cases told
      · refine (hY.out _ hT).mono ?_
        rintro e w12 ⟨u3, G3, rfl, ⟨_, rfl, rfl, -, -, -⟩, -, -, hb⟩
        have hs_w12 := hb.size
        replace RE := RE.below hb
        replace RM := RM.below hb
        replace RW := RW.below hb
        replace RX := RX.below hb
        replace hT := hT.below hb
        replace h0 := h0.below (by decide) hb
        replace hB := tr hB hb (Nat.le_refl _)
        clear hb
        have c_RE := RE.cells; have f_RE := RE.frozens; have d_RE := fun o => (RE.alloc o).cells; have e_RE := fun o => (RE.alloc o).frozens
        have c_RM := RM.cells; have f_RM := RM.frozens; have d_RM := fun o => (RM.alloc o).cells; have e_RM := fun o => (RM.alloc o).frozens
        have c_RW := RW.cells; have f_RW := RW.frozens; have d_RW := fun o => (RW.alloc o).cells; have e_RW := fun o => (RW.alloc o).frozens
        have c_RX := RX.cells; have f_RX := RX.frozens; have d_RX := fun o => (RX.alloc o).cells; have e_RX := fun o => (RX.alloc o).frozens
        go_wp2_with fail
        clear c_RE f_RE d_RE e_RE c_RM f_RM d_RM e_RM c_RW f_RW d_RW e_RW c_RX f_RX d_RX e_RX
        have al : Below w12.heap.size w12 (w12.alloc (.cells #[.string md, .string ⟨#[]⟩, .int .i64 mq] 31)) := by
          repeat refine Below.alloc ?_ (by simp <;> omega) _
          exact Below.refl _ _
        have n_RN := Row.made w12 31 [.string md, .string ⟨#[]⟩, .int .i64 mq]
        have hs_w13 : w12.heap.size < (w12.alloc (.cells #[.string md, .string ⟨#[]⟩, .int .i64 mq] 31)).heap.size := by simp
        replace RE := RE.below al
        replace RM := RM.below al
        replace RW := RW.below al
        replace RX := RX.below al
        replace hT := hT.below al
        replace h0 := h0.below (by decide) al
        replace hB := tr hB al (Nat.le_refl _)
        generalize (w12.alloc (.cells #[.string md, .string ⟨#[]⟩, .int .i64 mq] 31)) = w13 at *
        have RN := n_RN; clear n_RN
        clear al
        have c_RE := RE.cells; have f_RE := RE.frozens
        have c_RM := RM.cells; have f_RM := RM.frozens
        have c_RW := RW.cells; have f_RW := RW.frozens
        have c_RX := RX.cells; have f_RX := RX.frozens
        have c_RN := RN.cells; have f_RN := RN.frozens
        go_wp2_with fail
        go_ret
        exact ⟨rfl, hB⟩
      · refine (hY.out _ hT).mono ?_
        rintro e w14 ⟨u3, G3, rfl, ⟨_, rfl, rfl, -, -, -⟩, -, -, hb⟩
        have hs_w14 := hb.size
        replace RE := RE.below hb
        replace RM := RM.below hb
        replace RW := RW.below hb
        replace RX := RX.below hb
        replace hT := hT.below hb
        replace h0 := h0.below (by decide) hb
        replace hB := tr hB hb (Nat.le_refl _)
        clear hb
        have c_RE := RE.cells; have f_RE := RE.frozens; have d_RE := fun o => (RE.alloc o).cells; have e_RE := fun o => (RE.alloc o).frozens
        have c_RM := RM.cells; have f_RM := RM.frozens; have d_RM := fun o => (RM.alloc o).cells; have e_RM := fun o => (RM.alloc o).frozens
        have c_RW := RW.cells; have f_RW := RW.frozens; have d_RW := fun o => (RW.alloc o).cells; have e_RW := fun o => (RW.alloc o).frozens
        have c_RX := RX.cells; have f_RX := RX.frozens; have d_RX := fun o => (RX.alloc o).cells; have e_RX := fun o => (RX.alloc o).frozens
        go_wp2_with fail
        clear c_RE f_RE d_RE e_RE c_RM f_RM d_RM e_RM c_RW f_RW d_RW e_RW c_RX f_RX d_RX e_RX
        have al : Below w14.heap.size w14 (w14.alloc (.cells #[.string md, .string ⟨#[]⟩, .int .i64 mq] 31)) := by
          repeat refine Below.alloc ?_ (by simp <;> omega) _
          exact Below.refl _ _
        have n_RN := Row.made w14 31 [.string md, .string ⟨#[]⟩, .int .i64 mq]
        have hs_w15 : w14.heap.size < (w14.alloc (.cells #[.string md, .string ⟨#[]⟩, .int .i64 mq] 31)).heap.size := by simp
        replace RE := RE.below al
        replace RM := RM.below al
        replace RW := RW.below al
        replace RX := RX.below al
        replace hT := hT.below al
        replace h0 := h0.below (by decide) al
        replace hB := tr hB al (Nat.le_refl _)
        generalize (w14.alloc (.cells #[.string md, .string ⟨#[]⟩, .int .i64 mq] 31)) = w15 at *
        have RN := n_RN; clear n_RN
        clear al
        have c_RE := RE.cells; have f_RE := RE.frozens
        have c_RM := RM.cells; have f_RM := RM.frozens
        have c_RW := RW.cells; have f_RW := RW.frozens
        have c_RX := RX.cells; have f_RX := RX.frozens
        have c_RN := RN.cells; have f_RN := RN.frozens
        go_wp2_with fail
        clear c_RE f_RE c_RM f_RM c_RW f_RW c_RX f_RX c_RN f_RN
        refine (hV.out _ hT).mono ?_
        rintro e w16 ⟨rfl, hb⟩
        have hs_w16 := hb.size
        replace RE := RE.below hb
        replace RM := RM.below hb
        replace RW := RW.below hb
        replace RX := RX.below hb
        replace RN := RN.below hb
        replace hT := hT.below hb
        replace h0 := h0.below (by decide) hb
        replace hB := tr hB hb (Nat.le_refl _)
        clear hb
        have c_RE := RE.cells; have f_RE := RE.frozens
        have c_RM := RM.cells; have f_RM := RM.frozens
        have c_RW := RW.cells; have f_RW := RW.frozens
        have c_RX := RX.cells; have f_RX := RX.frozens
        have c_RN := RN.cells; have f_RN := RN.frozens
        go_wp2_with fail
        go_ret
        exact ⟨rfl, hB⟩
    · have hX := fun (w : World) (hT : IsV ETab w (.agg #[]) () FT) => RecoverLog_c s FT w (by unfold maxLen; omega) hT
      rw [hrx] at hX
      replace hX := Lib.hid hX
      clear hrx hen
      refine (hX.out _ hT).mono ?_
      rintro e w17 ⟨u2, G2, rfl, ⟨_, rfl, rfl, -, -, -⟩, -, -, hb⟩
      have hs_w17 := hb.size
      replace RE := RE.below hb
      replace RM := RM.below hb
      replace RW := RW.below hb
      replace hT := hT.below hb
      replace h0 := h0.below (by decide) hb
      replace hB := tr hB hb (Nat.le_refl _)
      clear hb
      rcases hfx with ⟨rfl, hf0, rfl⟩ | ⟨hk0, rfl⟩
      · have c_RE := RE.cells; have f_RE := RE.frozens; have d_RE := fun o => (RE.alloc o).cells; have e_RE := fun o => (RE.alloc o).frozens
        have c_RM := RM.cells; have f_RM := RM.frozens; have d_RM := fun o => (RM.alloc o).cells; have e_RM := fun o => (RM.alloc o).frozens
        have c_RW := RW.cells; have f_RW := RW.frozens; have d_RW := fun o => (RW.alloc o).cells; have e_RW := fun o => (RW.alloc o).frozens
        go_wp2_with fail
        clear c_RE f_RE d_RE e_RE c_RM f_RM d_RM e_RM c_RW f_RW d_RW e_RW
        have al : Below w17.heap.size w17 (w17.alloc (.cells #[.string xd, .string xp, .int .i64 1] 31)) := by
          repeat refine Below.alloc ?_ (by simp <;> omega) _
          exact Below.refl _ _
        have n_RX := Row.made w17 31 [.string xd, .string xp, .int .i64 1]
        have hs_w18 : w17.heap.size < (w17.alloc (.cells #[.string xd, .string xp, .int .i64 1] 31)).heap.size := by simp
        replace RE := RE.below al
        replace RM := RM.below al
        replace RW := RW.below al
        replace hT := hT.below al
        replace h0 := h0.below (by decide) al
        replace hB := tr hB al (Nat.le_refl _)
        generalize (w17.alloc (.cells #[.string xd, .string xp, .int .i64 1] 31)) = w18 at *
        have RX := n_RX; clear n_RX
        clear al
        have c_RE := RE.cells; have f_RE := RE.frozens
        have c_RM := RM.cells; have f_RM := RM.frozens
        have c_RW := RW.cells; have f_RW := RW.frozens
        have c_RX := RX.cells; have f_RX := RX.frozens
        go_wp2_with fail
        clear c_RE f_RE c_RM f_RM c_RW f_RW c_RX f_RX
        cases told
        · refine (hY.out _ hT).mono ?_
          rintro e w19 ⟨u3, G3, rfl, ⟨_, rfl, rfl, -, -, -⟩, -, -, hb⟩
          have hs_w19 := hb.size
          replace RE := RE.below hb
          replace RM := RM.below hb
          replace RW := RW.below hb
          replace RX := RX.below hb
          replace hT := hT.below hb
          replace h0 := h0.below (by decide) hb
          replace hB := tr hB hb (Nat.le_refl _)
          clear hb
          have c_RE := RE.cells; have f_RE := RE.frozens; have d_RE := fun o => (RE.alloc o).cells; have e_RE := fun o => (RE.alloc o).frozens
          have c_RM := RM.cells; have f_RM := RM.frozens; have d_RM := fun o => (RM.alloc o).cells; have e_RM := fun o => (RM.alloc o).frozens
          have c_RW := RW.cells; have f_RW := RW.frozens; have d_RW := fun o => (RW.alloc o).cells; have e_RW := fun o => (RW.alloc o).frozens
          have c_RX := RX.cells; have f_RX := RX.frozens; have d_RX := fun o => (RX.alloc o).cells; have e_RX := fun o => (RX.alloc o).frozens
          go_wp2_with fail
          clear c_RE f_RE d_RE e_RE c_RM f_RM d_RM e_RM c_RW f_RW d_RW e_RW c_RX f_RX d_RX e_RX
          have al : Below w19.heap.size w19 (w19.alloc (.cells #[.string md, .string ⟨#[]⟩, .int .i64 mq] 31)) := by
            repeat refine Below.alloc ?_ (by simp <;> omega) _
            exact Below.refl _ _
          have n_RN := Row.made w19 31 [.string md, .string ⟨#[]⟩, .int .i64 mq]
          have hs_w20 : w19.heap.size < (w19.alloc (.cells #[.string md, .string ⟨#[]⟩, .int .i64 mq] 31)).heap.size := by simp
          replace RE := RE.below al
          replace RM := RM.below al
          replace RW := RW.below al
          replace RX := RX.below al
          replace hT := hT.below al
          replace h0 := h0.below (by decide) al
          replace hB := tr hB al (Nat.le_refl _)
          generalize (w19.alloc (.cells #[.string md, .string ⟨#[]⟩, .int .i64 mq] 31)) = w20 at *
          have RN := n_RN; clear n_RN
          clear al
          have c_RE := RE.cells; have f_RE := RE.frozens
          have c_RM := RM.cells; have f_RM := RM.frozens
          have c_RW := RW.cells; have f_RW := RW.frozens
          have c_RX := RX.cells; have f_RX := RX.frozens
          have c_RN := RN.cells; have f_RN := RN.frozens
          go_wp2_with fail
          go_ret
          exact ⟨rfl, hB⟩
        · refine (hY.out _ hT).mono ?_
          rintro e w21 ⟨u3, G3, rfl, ⟨_, rfl, rfl, -, -, -⟩, -, -, hb⟩
          have hs_w21 := hb.size
          replace RE := RE.below hb
          replace RM := RM.below hb
          replace RW := RW.below hb
          replace RX := RX.below hb
          replace hT := hT.below hb
          replace h0 := h0.below (by decide) hb
          replace hB := tr hB hb (Nat.le_refl _)
          clear hb
          have c_RE := RE.cells; have f_RE := RE.frozens; have d_RE := fun o => (RE.alloc o).cells; have e_RE := fun o => (RE.alloc o).frozens
          have c_RM := RM.cells; have f_RM := RM.frozens; have d_RM := fun o => (RM.alloc o).cells; have e_RM := fun o => (RM.alloc o).frozens
          have c_RW := RW.cells; have f_RW := RW.frozens; have d_RW := fun o => (RW.alloc o).cells; have e_RW := fun o => (RW.alloc o).frozens
          have c_RX := RX.cells; have f_RX := RX.frozens; have d_RX := fun o => (RX.alloc o).cells; have e_RX := fun o => (RX.alloc o).frozens
          go_wp2_with fail
          clear c_RE f_RE d_RE e_RE c_RM f_RM d_RM e_RM c_RW f_RW d_RW e_RW c_RX f_RX d_RX e_RX
          have al : Below w21.heap.size w21 (w21.alloc (.cells #[.string md, .string ⟨#[]⟩, .int .i64 mq] 31)) := by
            repeat refine Below.alloc ?_ (by simp <;> omega) _
            exact Below.refl _ _
          have n_RN := Row.made w21 31 [.string md, .string ⟨#[]⟩, .int .i64 mq]
          have hs_w22 : w21.heap.size < (w21.alloc (.cells #[.string md, .string ⟨#[]⟩, .int .i64 mq] 31)).heap.size := by simp
          replace RE := RE.below al
          replace RM := RM.below al
          replace RW := RW.below al
          replace RX := RX.below al
          replace hT := hT.below al
          replace h0 := h0.below (by decide) al
          replace hB := tr hB al (Nat.le_refl _)
          generalize (w21.alloc (.cells #[.string md, .string ⟨#[]⟩, .int .i64 mq] 31)) = w22 at *
          have RN := n_RN; clear n_RN
          clear al
          have c_RE := RE.cells; have f_RE := RE.frozens
          have c_RM := RM.cells; have f_RM := RM.frozens
          have c_RW := RW.cells; have f_RW := RW.frozens
          have c_RX := RX.cells; have f_RX := RX.frozens
          have c_RN := RN.cells; have f_RN := RN.frozens
          go_wp2_with fail
          clear c_RE f_RE c_RM f_RM c_RW f_RW c_RX f_RX c_RN f_RN
          refine (hV.out _ hT).mono ?_
          rintro e w23 ⟨rfl, hb⟩
          have hs_w23 := hb.size
          replace RE := RE.below hb
          replace RM := RM.below hb
          replace RW := RW.below hb
          replace RX := RX.below hb
          replace RN := RN.below hb
          replace hT := hT.below hb
          replace h0 := h0.below (by decide) hb
          replace hB := tr hB hb (Nat.le_refl _)
          clear hb
          have c_RE := RE.cells; have f_RE := RE.frozens
          have c_RM := RM.cells; have f_RM := RM.frozens
          have c_RW := RW.cells; have f_RW := RW.frozens
          have c_RX := RX.cells; have f_RX := RX.frozens
          have c_RN := RN.cells; have f_RN := RN.frozens
          go_wp2_with fail
          go_ret
          exact ⟨rfl, hB⟩
      · have hk1 : (k == 0) = false := by simpa using hk0
        clear hk0
        have c_RE := RE.cells; have f_RE := RE.frozens; have d_RE := fun o => (RE.alloc o).cells; have e_RE := fun o => (RE.alloc o).frozens
        have c_RM := RM.cells; have f_RM := RM.frozens; have d_RM := fun o => (RM.alloc o).cells; have e_RM := fun o => (RM.alloc o).frozens
        have c_RW := RW.cells; have f_RW := RW.frozens; have d_RW := fun o => (RW.alloc o).cells; have e_RW := fun o => (RW.alloc o).frozens
        go_wp2_with fail
        clear c_RE f_RE d_RE e_RE c_RM f_RM d_RM e_RM c_RW f_RW d_RW e_RW
        have al : Below w17.heap.size w17 (w17.alloc (.cells #[.string xd, .string xp, .int .i64 xq] 31)) := by
          repeat refine Below.alloc ?_ (by simp <;> omega) _
          exact Below.refl _ _
        have n_RX := Row.made w17 31 [.string xd, .string xp, .int .i64 xq]
        have hs_w24 : w17.heap.size < (w17.alloc (.cells #[.string xd, .string xp, .int .i64 xq] 31)).heap.size := by simp
        replace RE := RE.below al
        replace RM := RM.below al
        replace RW := RW.below al
        replace hT := hT.below al
        replace h0 := h0.below (by decide) al
        replace hB := tr hB al (Nat.le_refl _)
        generalize (w17.alloc (.cells #[.string xd, .string xp, .int .i64 xq] 31)) = w24 at *
        have RX := n_RX; clear n_RX
        clear al
        have c_RE := RE.cells; have f_RE := RE.frozens
        have c_RM := RM.cells; have f_RM := RM.frozens
        have c_RW := RW.cells; have f_RW := RW.frozens
        have c_RX := RX.cells; have f_RX := RX.frozens
        go_wp2_with fail
        clear c_RE f_RE c_RM f_RM c_RW f_RW c_RX f_RX
        cases told
        · refine (hY.out _ hT).mono ?_
          rintro e w25 ⟨u3, G3, rfl, ⟨_, rfl, rfl, -, -, -⟩, -, -, hb⟩
          have hs_w25 := hb.size
          replace RE := RE.below hb
          replace RM := RM.below hb
          replace RW := RW.below hb
          replace RX := RX.below hb
          replace hT := hT.below hb
          replace h0 := h0.below (by decide) hb
          replace hB := tr hB hb (Nat.le_refl _)
          clear hb
          have c_RE := RE.cells; have f_RE := RE.frozens; have d_RE := fun o => (RE.alloc o).cells; have e_RE := fun o => (RE.alloc o).frozens
          have c_RM := RM.cells; have f_RM := RM.frozens; have d_RM := fun o => (RM.alloc o).cells; have e_RM := fun o => (RM.alloc o).frozens
          have c_RW := RW.cells; have f_RW := RW.frozens; have d_RW := fun o => (RW.alloc o).cells; have e_RW := fun o => (RW.alloc o).frozens
          have c_RX := RX.cells; have f_RX := RX.frozens; have d_RX := fun o => (RX.alloc o).cells; have e_RX := fun o => (RX.alloc o).frozens
          go_wp2_with fail
          clear c_RE f_RE d_RE e_RE c_RM f_RM d_RM e_RM c_RW f_RW d_RW e_RW c_RX f_RX d_RX e_RX
          have al : Below w25.heap.size w25 (w25.alloc (.cells #[.string md, .string ⟨#[]⟩, .int .i64 mq] 31)) := by
            repeat refine Below.alloc ?_ (by simp <;> omega) _
            exact Below.refl _ _
          have n_RN := Row.made w25 31 [.string md, .string ⟨#[]⟩, .int .i64 mq]
          have hs_w26 : w25.heap.size < (w25.alloc (.cells #[.string md, .string ⟨#[]⟩, .int .i64 mq] 31)).heap.size := by simp
          replace RE := RE.below al
          replace RM := RM.below al
          replace RW := RW.below al
          replace RX := RX.below al
          replace hT := hT.below al
          replace h0 := h0.below (by decide) al
          replace hB := tr hB al (Nat.le_refl _)
          generalize (w25.alloc (.cells #[.string md, .string ⟨#[]⟩, .int .i64 mq] 31)) = w26 at *
          have RN := n_RN; clear n_RN
          clear al
          have c_RE := RE.cells; have f_RE := RE.frozens
          have c_RM := RM.cells; have f_RM := RM.frozens
          have c_RW := RW.cells; have f_RW := RW.frozens
          have c_RX := RX.cells; have f_RX := RX.frozens
          have c_RN := RN.cells; have f_RN := RN.frozens
          go_wp2_with fail
          go_ret
          exact ⟨rfl, hB⟩
        · refine (hY.out _ hT).mono ?_
          rintro e w27 ⟨u3, G3, rfl, ⟨_, rfl, rfl, -, -, -⟩, -, -, hb⟩
          have hs_w27 := hb.size
          replace RE := RE.below hb
          replace RM := RM.below hb
          replace RW := RW.below hb
          replace RX := RX.below hb
          replace hT := hT.below hb
          replace h0 := h0.below (by decide) hb
          replace hB := tr hB hb (Nat.le_refl _)
          clear hb
          have c_RE := RE.cells; have f_RE := RE.frozens; have d_RE := fun o => (RE.alloc o).cells; have e_RE := fun o => (RE.alloc o).frozens
          have c_RM := RM.cells; have f_RM := RM.frozens; have d_RM := fun o => (RM.alloc o).cells; have e_RM := fun o => (RM.alloc o).frozens
          have c_RW := RW.cells; have f_RW := RW.frozens; have d_RW := fun o => (RW.alloc o).cells; have e_RW := fun o => (RW.alloc o).frozens
          have c_RX := RX.cells; have f_RX := RX.frozens; have d_RX := fun o => (RX.alloc o).cells; have e_RX := fun o => (RX.alloc o).frozens
          go_wp2_with fail
          clear c_RE f_RE d_RE e_RE c_RM f_RM d_RM e_RM c_RW f_RW d_RW e_RW c_RX f_RX d_RX e_RX
          have al : Below w27.heap.size w27 (w27.alloc (.cells #[.string md, .string ⟨#[]⟩, .int .i64 mq] 31)) := by
            repeat refine Below.alloc ?_ (by simp <;> omega) _
            exact Below.refl _ _
          have n_RN := Row.made w27 31 [.string md, .string ⟨#[]⟩, .int .i64 mq]
          have hs_w28 : w27.heap.size < (w27.alloc (.cells #[.string md, .string ⟨#[]⟩, .int .i64 mq] 31)).heap.size := by simp
          replace RE := RE.below al
          replace RM := RM.below al
          replace RW := RW.below al
          replace RX := RX.below al
          replace hT := hT.below al
          replace h0 := h0.below (by decide) al
          replace hB := tr hB al (Nat.le_refl _)
          generalize (w27.alloc (.cells #[.string md, .string ⟨#[]⟩, .int .i64 mq] 31)) = w28 at *
          have RN := n_RN; clear n_RN
          clear al
          have c_RE := RE.cells; have f_RE := RE.frozens
          have c_RM := RM.cells; have f_RM := RM.frozens
          have c_RW := RW.cells; have f_RW := RW.frozens
          have c_RX := RX.cells; have f_RX := RX.frozens
          have c_RN := RN.cells; have f_RN := RN.frozens
          go_wp2_with fail
          clear c_RE f_RE c_RM f_RM c_RW f_RW c_RX f_RX c_RN f_RN
          refine (hV.out _ hT).mono ?_
          rintro e w29 ⟨rfl, hb⟩
          have hs_w29 := hb.size
          replace RE := RE.below hb
          replace RM := RM.below hb
          replace RW := RW.below hb
          replace RX := RX.below hb
          replace RN := RN.below hb
          replace hT := hT.below hb
          replace h0 := h0.below (by decide) hb
          replace hB := tr hB hb (Nat.le_refl _)
          clear hb
          have c_RE := RE.cells; have f_RE := RE.frozens
          have c_RM := RM.cells; have f_RM := RM.frozens
          have c_RW := RW.cells; have f_RW := RW.frozens
          have c_RX := RX.cells; have f_RX := RX.frozens
          have c_RN := RN.cells; have f_RN := RN.frozens
          go_wp2_with fail
          go_ret
          exact ⟨rfl, hB⟩
set_option maxRecDepth 100000 in
theorem lifted_FnLogLines (os : Os) (started : os.Started) (H : Type) (enc : TypeId × Value → H) :
    ReturnsInHanded {} Tryd.checked os 10 .any (fun w args => (Rows.fnLogLinesSpec.pre enc Tryd.prog Tryd.f10 Rows.fnLogLinesRow.domain false w args ∧ laidMetH Tryd.prog Rows.fnLogLinesRow.laid w) ∧ sizedMet enc Tryd.prog Tryd.f10 (OpenSpec.ofChange Rows.fnLogLinesSpec) false w args)
      (Rows.fnLogLinesSpec.post enc Tryd.prog Tryd.f10 false true false false) := by
  refine returnsInHanded_of_change_and (C := Tryd.checked) (X := fun w _ => laidMetH Tryd.prog Rows.fnLogLinesRow.laid w) (fun _ _ _ hh h => h.of_heap hh) (by kernel_rfl) started (by kernel_rfl) Tryd.func10
    (ChangeSpec.witness_shaped (enc := enc) (C := Tryd.checked) (os := os) (X := fun w _ => laidMetH Tryd.prog Rows.fnLogLinesRow.laid w) false (World.laidAll Tryd.prog os Rows.fnLogLinesRow.laid) #[.slice none 0 0] 8 (World.laidAll_os _ _ _)
      (World.shaped_of_ZipB (by kernel_rfl) (by kernel_rfl)) (by kernel_rfl) (by kernel_rfl) (by kernel_rfl)
      (by rw [MakeChecks.laidMetH_plain _ _ _ (by kernel_rfl)]; exact laidMet_laidAll _ (by kernel_rfl) (by kernel_rfl))) ?_
  intro W base args ds gs before hval0 hW hc_ _ hL _
  have hval : ∀ (j : Nat) t v, Tryd.f10.params[j]? = some t → args[j]? = some v → Value.okWide Tryd.prog W .any base t v := hval0
  have hW' := hW
  obtain ⟨p, q, hA0, hV, rfl, hfz, hnd⟩ := hW
  have hA : DataW.TrodAll enc Tryd.prog W 0 (fun _ => true) true Tryd.f10.params.toList args.toList ds p := hA0
  rw [Tryd.params10] at hA hval
  obtain ⟨v0, d0, rfl, rfl, h0⟩ := trodAll_one hA
  obtain ⟨a0, l0, c0, rfl⟩ := okWide_slice Tryd.underlying53 (hval 0 53 v0 rfl rfl)
  obtain ⟨fuel0, hf0⟩ := h0
  obtain ⟨x0, F0, u0, hu0, hs0⟩ := (reads_slice Tryd.underlying53 (by kernel_rfl) (by decide) reads_byte) hf0
  obtain rfl : Value.slice a0 l0 c0 = u0 := by simpa [Value.cells] using hu0
  have hT := tab_of_laid hL
  refine (law_FnLogLines _ x0 F0 _ W hs0 hT).mono fun e W' ⟨he, hB⟩ => ⟨_, he, law_post (tb := 4) (by kernel_rfl) ?_ Tryd.underlying4 (by kernel_rfl) rfl rfl hW' hB⟩
  rw [Tryd.params10]
  simp only [List.mem_cons, List.not_mem_nil, or_false, forall_eq]
  exact ⟨by kernel_rfl, of_decide_eq_true (by kernel_rfl)⟩
theorem holds_FnLogLines : Rows.FnLogLinesSaid :=
  OpenClaim.holds_of_wide 10 Tryd.f10 rfl rfl rfl rfl rfl rfl rfl ⟨rfl, rfl, rfl, rfl, rfl⟩ rfl rfl rfl rfl rfl (by kernel_rfl) Tryd.func10 (by kernel_rfl)
    (of_decide_eq_true (by kernel_rfl)) (by unfold Func.isWrapper; first | (rw [if_pos (by decide +kernel)]; kernel_rfl) | (rw [if_neg (by decide +kernel)]; exact ⟨rfl, rfl⟩))
    (fun os started H enc _ => lifted_FnLogLines os started H enc)
/-- no parameter wants a stand-in; the looks are off -/
theorem plain_FnLogLines (f : FuncId) (fn : Func) (hf : Tryd.pinned.checked.prog.funcNamed "loop.example/g00840/laws.FnLogLines" = some f) (hfn : Tryd.pinned.checked.prog.funcs[f]? = some fn) :
    false = Tryd.pinned.checked.prog.looks [] ∧ ∀ (j : Nat) t, fn.params[j]? = some t → Tryd.pinned.checked.prog.wantsStandIn t = false := by
  obtain rfl : f = 10 := Option.some.inj ((show Tryd.prog.funcNamed "loop.example/g00840/laws.FnLogLines" = some 10 by kernel_rfl).symm.trans hf) |>.symm
  obtain rfl : fn = Tryd.f10 := (Option.some.inj (Tryd.func10.symm.trans hfn)).symm
  refine ⟨by kernel_rfl, fun j t ht => ?_⟩
  rw [Tryd.params10] at ht
  have hm : t ∈ [53] := by simpa using Array.mem_of_getElem? ht
  have hall : ([53].all fun u => !Tryd.prog.wantsStandIn u) = true := by kernel_rfl
  exact (show Tryd.prog.wantsStandIn t = false by simpa using List.all_eq_true.1 hall t hm)
theorem card_FnLogLines : Rows.FnLogLinesCardSaid :=
  Claim7.holds_tied_plain_at .later [] _ _ _ _ holds_FnLogLines (fun _ h => by cases h) (by kernel_rfl) (fun _ h => by cases h) fnLogLines_row_tie rfl ⟨rfl, rfl⟩ (by kernel_rfl) rfl plain_FnLogLines (by kernel_rfl)
end Go.Proofs.YtnmgaponnfjciaaDoor
