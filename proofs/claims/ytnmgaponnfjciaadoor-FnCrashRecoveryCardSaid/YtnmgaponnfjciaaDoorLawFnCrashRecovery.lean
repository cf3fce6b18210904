/- The law FnCrashRecovery: the walk of the law itself out of the contracts of its functions. No condition beyond the form's own reach. -/
import Derived.Test.YtnmgaponnfjciaaDoorDrawsLog2
import Derived.Test.YtnmgaponnfjciaaDoorCRecoverLog
import Derived.Test.YtnmgaponnfjciaaDoorCLogRecords
import Derived.Test.YtnmgaponnfjciaaDoorCIsValidLog
import Derived.Test.YtnmgaponnfjciaaDoorCCrashLog
import Derived.Test.YtnmgaponnfjciaaDoorLogPlain2
import Derived.Test.YtnmgaponnfjciaaDoorLaw
import Derived.Test.YtnmgaponnfjciaaDoorCards
import Derived.Test.YtnmgaponnfjciaaDoorTie
import Derived.LaidMore
import Derived.Lay
import Derived.SevenTiedAt
import Derived.Stop.Joined
import Derived.Test.YtnmgaponnfjciaaDoorTab
import Derived.Test.YtnmgaponnfjciaaDoorLaw2
namespace Go.Proofs.YtnmgaponnfjciaaDoor
open Go.RowKit Go.ChangeShapes Go.WideShapes Go.ChangeAt
theorem vBig_c (v : Value) (code : List Int) (F : List Nat) (w : World) (h : Sl EByte w v code F) : Calls Tryd.prog 35 #[v] w fun e w' => e = .returned (.bool (decide (65536 < (code.length : Int)))) ∧ w = w' := by
  obtain ⟨a, c, rfl⟩ := h.slice
  have hl := h.len; unfold maxLen at hl
  go_enter Tryd.func35, Tryd.ntmps35
  go_wp2
  go_ret
  exact ⟨rfl, rfl⟩
theorem reads_byte : Reads Tryd.prog EByte 5 := fun h => by
  obtain ⟨n, rfl, _, hw⟩ := DataW.trod_int Tryd.underlying5 h
  have hb := bounds_u8 hw
  exact ⟨n, [], rfl, hb.1, hb.2, rfl⟩
theorem lt_of_reads {w v} {code : List Int} {F} (h : Sl EByte w v code F) : ∀ b ∈ F, b < w.heap.size := h.lt (by decide)
theorem okLog_rec (s : ByteArray) : okLog ⟨bs (opened s.data.toList).flatten, ⟨#[]⟩, ((opened s.data.toList).length : Nat)⟩ := by
  have hv := (Valid.recovered s.data.toList).bool
  unfold okLog; rw [bs_list]; exact hv
theorem recs_rec (s : ByteArray) : resLogRecords ⟨bs (opened s.data.toList).flatten, ⟨#[]⟩, ((opened s.data.toList).length : Nat)⟩ = ((opened s.data.toList).map recL, true) := by
  unfold resLogRecords
  have h := okLog_rec s
  unfold okLog at h
  rw [if_pos h, bs_list]
  simp only [List.append_nil, opened_again]
theorem crash_no {x : Log} {k : Int} {t : Bool} {s : ByteArray} (h : resCrashLog x k t = (s, false)) : s = ⟨#[]⟩ := by
  unfold resCrashLog at h
  split at h
  · simp at h
  · simp only [Prod.mk.injEq, and_true] at h; exact h.symm
theorem crash_yes {x : Log} {k : Int} {t : Bool} {s : ByteArray} (h : resCrashLog x k t = (s, true)) :
    okLog x ∧ s.size ≤ 30000 ∧ ∃ (ys : List LogRecord) (n0 : Nat) (m : Log) (f : Nat), resRecoverLog s = (m, (f : Int), true) ∧ okLog m ∧ f ≤ s.size ∧ x.durable.size ≤ f ∧ resLogRecords m = (ys.take n0, true) ∧ resLogRecords x = (ys, true) ∧ m.durable = s.extract 0 f := by
  unfold resCrashLog at h
  split at h
  · rename_i h1
    simp only [Bool.and_eq_true] at h1
    have hok : okLog x := h1.1
    have hv := valid_of h1.1
    have hsm := hok.small
    simp only [Prod.mk.injEq, and_true] at h
    obtain ⟨j, hj⟩ := hv.crash k.toNat t
    have hsl : s.data.toList = x.durable.data.toList ++ (if t then torn (x.pending.data.toList.take k.toNat) else x.pending.data.toList.take k.toNat) := by rw [← h, bs_list]
    rw [← hsl] at hj
    have hss : s.size ≤ 30000 := by
      rw [← size_list, hsl, List.length_append, size_list]
      have : (if t then torn (x.pending.data.toList.take k.toNat) else x.pending.data.toList.take k.toNat).length ≤ x.pending.size := by
        split
        · rw [torn_len, List.length_take, size_list]; omega
        · rw [List.length_take, size_list]; omega
      omega
    have hsp := opened_split (d := x.durable.data.toList) (by rw [hv.dur]) x.pending.data.toList
    have hO : opened s.data.toList = (opened (x.durable.data.toList ++ x.pending.data.toList)).take ((opened x.durable.data.toList).length + j) := by
      rw [hj, hsp, List.drop_left, List.take_length_add_append]
    refine ⟨hok, hss, (opened (x.durable.data.toList ++ x.pending.data.toList)).map recL, (opened x.durable.data.toList).length + j, ⟨bs (opened s.data.toList).flatten, ⟨#[]⟩, ((opened s.data.toList).length : Nat)⟩, (opened s.data.toList).flatten.length, ?_, okLog_rec s, pre_len s, ?_, ?_, ?_, (ext_opened s).symm⟩
    · unfold resRecoverLog; rw [if_pos hss]
    · rw [hj, List.flatten_append, List.length_append, hv.dur, size_list]; omega
    · rw [recs_rec, ← List.map_take, ← hO]
    · unfold resLogRecords; rw [if_pos h1.1]
  · simp at h
set_option maxHeartbeats 8000000 in
set_option maxRecDepth 100000 in
theorem law_FnCrashRecovery (v0 : Value) (code : List Int) (F0 : List Nat) (FT : List Nat) (w : World) (h0 : Sl EByte w v0 code F0) (hT : IsV ETab w (.agg #[]) () FT) :
    Calls Tryd.prog 12 #[v0] w fun e' w' => e' = .returned (.bool true) ∧ Below w.heap.size w w' := by
  have hFT := hT.lt
  obtain ⟨a, c, rfl⟩ := h0.slice
  have hBg := fun w h => vBig_c (.slice a code.length c) code F0 w h
  have hcl := h0.len; unfold maxLen at hcl
  by_cases hbig : 65536 < code.length
  · rw [decide_eq_true (by omega)] at hBg
    replace hBg := Lib.hid hBg
    go_enter Tryd.func12, Tryd.ntmps12
    go_wp2_with fail
    refine (hBg.out _ h0).mono ?_
    rintro e w' ⟨rfl, rfl⟩
    go_wp2_with fail
    go_ret
    exact ⟨rfl, Below.refl _ _⟩
  · rw [decide_eq_false (by omega)] at hBg
    replace hBg := Lib.hid hBg
    go_enter Tryd.func12, Tryd.ntmps12
    go_wp2_with fail
    refine (hBg.out _ h0).mono ?_
    rintro e w' ⟨rfl, rfl⟩
    go_wp2_with fail
    have hB := Below.refl w.heap.size w
    refine (DrawCrashLog_c _ code F0 _ h0).mono ?_
    rintro e w1 ⟨ld, lp, lq, k, t, hld, hlp, rfl, hb⟩
    have hs_w1 := hb.size
    replace hT := hT.below hb
    replace hB := tr hB hb (Nat.le_refl _)
    clear hb
    go_wp2_with fail
    have al : Below w1.heap.size w1 (w1.alloc (.cells #[.string ld, .string lp, .int .i64 lq] 31)) := by
      repeat refine Below.alloc ?_ (by simp <;> omega) _
      exact Below.refl _ _
    have n_RL := Row.made w1 31 [.string ld, .string lp, .int .i64 lq]
    have hs_w2 : w1.heap.size < (w1.alloc (.cells #[.string ld, .string lp, .int .i64 lq] 31)).heap.size := by simp
    replace hT := hT.below al
    replace hB := tr hB al (Nat.le_refl _)
    generalize (w1.alloc (.cells #[.string ld, .string lp, .int .i64 lq] 31)) = w2 at *
    have RL := n_RL; clear n_RL
    clear al
    have hwl : wtLog ⟨ld, lp, lq⟩ ≤ 1048576 := by unfold wtLog; dsimp only; omega
    have hm1 : ld.size ≤ maxLen ∧ lp.size ≤ maxLen := by unfold maxLen; omega
    have hC := fun (w : World) (hT : IsV ETab w (.agg #[]) () FT) => CrashLog_c _ ⟨ld, lp, lq⟩ [] k t FT w (isLog w ld lp lq hm1.1 hm1.2) hwl hT
    have hC2 := fun (w : World) => specCrashLog_c _ ⟨ld, lp, lq⟩ [] k t w (isLog w ld lp lq hm1.1 hm1.2) hwl
    obtain ⟨s, ok, hres⟩ : ∃ s ok, resCrashLog ⟨ld, lp, lq⟩ k t = (s, ok) := ⟨_, _, rfl⟩
    rw [hres] at hC hC2
    replace hC := Lib.hid hC; replace hC2 := Lib.hid hC2; replace hres := Lib.hid hres
    have c_RL := RL.cells; have f_RL := RL.frozens
    go_wp2_with fail
    clear c_RL f_RL
    refine (hC.out _ hT).mono ?_
    rintro e w3 ⟨rfl, hb⟩
    have hs_w3 := hb.size
    replace RL := RL.below hb
    replace hT := hT.below hb
    replace hB := tr hB hb (Nat.le_refl _)
    clear hb
    have c_RL := RL.cells; have f_RL := RL.frozens
    go_wp2_with fail
    clear c_RL f_RL
    refine (hC2.out _).mono ?_
    rintro e w4 ⟨rfl, hb⟩
    have hs_w4 := hb.size
    replace RL := RL.below hb
    replace hT := hT.below hb
    replace hB := tr hB hb (Nat.le_refl _)
    clear hb
    cases ok
    · have hs0 := crash_no hres.out
      subst hs0
      have c_RL := RL.cells; have f_RL := RL.frozens
      go_wp2_with fail
      go_ret
      exact ⟨rfl, hB⟩
    · obtain ⟨hok, hss, ys, n0, ⟨md, mp, mq⟩, f, hrec, hmok, hfs, hdf, hra, hro, hmd⟩ := crash_yes hres.out
      dsimp only at hdf hmd
      subst hmd
      obtain ⟨md, hmd⟩ : ∃ md, md = s.extract 0 f := ⟨_, rfl⟩
      rw [← hmd] at hrec hmok hra
      have hms := hmok.small
      dsimp only at hms
      have hm2 : md.size ≤ maxLen ∧ mp.size ≤ maxLen := by unfold maxLen; omega
      have hwm : wtLog ⟨md, mp, mq⟩ ≤ 1048576 := by unfold wtLog; dsimp only; omega
      have hR := fun (w : World) (hT : IsV ETab w (.agg #[]) () FT) => RecoverLog_c s FT w (by unfold maxLen; omega) hT
      rw [hrec] at hR
      have hA := fun (w : World) (hT : IsV ETab w (.agg #[]) () FT) => LogRecords_c _ ⟨md, mp, mq⟩ [] FT w (isLog w md mp mq hm2.1 hm2.2) hwm hT
      rw [hra] at hA
      have hO := fun (w : World) => specLogRecords_c _ ⟨ld, lp, lq⟩ [] w (isLog w ld lp lq hm1.1 hm1.2) hwl
      rw [hro] at hO
      have hV := fun (w : World) (hT : IsV ETab w (.agg #[]) () FT) => IsValidLog_c _ ⟨md, mp, mq⟩ [] FT w (isLog w md mp mq hm2.1 hm2.2) hwm hT
      rw [show resIsValidLog ⟨md, mp, mq⟩ = true from hmok] at hV
      obtain ⟨xs, hxs⟩ : ∃ xs, xs = ys.take n0 := ⟨_, rfl⟩
      rw [← hxs] at hA
      have hxl : xs.length ≤ ys.length := by rw [hxs, List.length_take]; omega
      have hxy : ∀ j (h1 : j < xs.length) (h2 : j < ys.length), ys[j] = xs[j] := fun j h1 h2 => by simp only [hxs, List.getElem_take]
      replace hR := Lib.hid hR; replace hA := Lib.hid hA; replace hO := Lib.hid hO; replace hV := Lib.hid hV; replace hmd := Lib.hid hmd; replace hxy := Lib.hid hxy
      clear hrec hmok hra hro hxs hok hres hC hC2
      have c_RL := RL.cells; have f_RL := RL.frozens
      go_wp2_with fail
      clear c_RL f_RL
      refine (hR.out _ hT).mono ?_
      rintro e w5 ⟨u0, G0, rfl, ⟨_, rfl, rfl, -, -, -⟩, -, -, hb⟩
      have hs_w5 := hb.size
      replace RL := RL.below hb
      replace hT := hT.below hb
      replace hB := tr hB hb (Nat.le_refl _)
      clear hb
      have c_RL := RL.cells; have f_RL := RL.frozens; have d_RL := fun o => (RL.alloc o).cells; have e_RL := fun o => (RL.alloc o).frozens
      go_wp2_with fail
      clear c_RL f_RL d_RL e_RL
      have al : Below w5.heap.size w5 (w5.alloc (.cells #[.string md, .string mp, .int .i64 mq] 31)) := by
        repeat refine Below.alloc ?_ (by simp <;> omega) _
        exact Below.refl _ _
      have n_RM := Row.made w5 31 [.string md, .string mp, .int .i64 mq]
      have hs_w6 : w5.heap.size < (w5.alloc (.cells #[.string md, .string mp, .int .i64 mq] 31)).heap.size := by simp
      replace RL := RL.below al
      replace hT := hT.below al
      replace hB := tr hB al (Nat.le_refl _)
      generalize (w5.alloc (.cells #[.string md, .string mp, .int .i64 mq] 31)) = w6 at *
      have RM := n_RM; clear n_RM
      clear al
      have c_RL := RL.cells; have f_RL := RL.frozens
      have c_RM := RM.cells; have f_RM := RM.frozens
      go_wp2_with fail
      clear c_RL f_RL c_RM f_RM
      refine (hA.out _ hT).mono ?_
      rintro e w7 ⟨u1, G1, rfl, o1, -, -, hb⟩
      have hs_w7 := hb.size
      replace RL := RL.below hb
      replace RM := RM.below hb
      replace hT := hT.below hb
      replace hB := tr hB hb (Nat.le_refl _)
      clear hb
      obtain ⟨F1, -, SA⟩ := o1.read
      clear o1
      obtain ⟨a1, c1, rfl⟩ := SA.slice
      have c_RL := RL.cells; have f_RL := RL.frozens
      have c_RM := RM.cells; have f_RM := RM.frozens
      go_wp2_with fail
      clear c_RL f_RL c_RM f_RM
      refine (hO.out _).mono ?_
      rintro e w8 ⟨u2, F2, rfl, SO, hb⟩
      have hs_w8 := hb.size
      replace RL := RL.below hb
      replace RM := RM.below hb
      replace hT := hT.below hb
      replace SA := SA.below (by decide) hb
      replace hB := tr hB hb (Nat.le_refl _)
      clear hb
      obtain ⟨a2, c2, rfl⟩ := SO.slice
      have hyl := SO.len; unfold maxLen at hyl
      have c_RL := RL.cells; have f_RL := RL.frozens
      have c_RM := RM.cells; have f_RM := RM.frozens
      go_wp2_with fail
      clear c_RL f_RL c_RM f_RM
      go_loopw [17] (fun i wr => ∃ j : Nat, j ≤ xs.length ∧ i = .int .i64 j ∧ Below w8.heap.size w8 wr) (fun i _ => xs.length - (intOf i).toNat)
      case atStart => exact ⟨0, Nat.zero_le _, rfl, Below.refl _ _⟩
      case round =>
        obtain ⟨j, hj, rfl, hbl⟩ := hrel
        have hs_wr := hbl.size
        replace RL := RL.below hbl
        replace RM := RM.below hbl
        replace hT := hT.below hbl
        replace SA := SA.below (by decide) hbl
        replace SO := SO.below (by decide) hbl
        replace hB := tr hB hbl (Nat.le_refl _)
        by_cases hlt : j < xs.length
        skip
        · have hlt2 : j < ys.length := by omega
          obtain ⟨ba, oa, _, F_, rfl, hx, -, ja⟩ := SA.at j hlt
          obtain ⟨bb, ob, _, G_, rfl, hy, -, jb⟩ := SO.at j hlt2
          obtain ⟨rfl, z1, z2, rfl⟩ := id hx
          obtain ⟨rfl, t1, t2, rfl⟩ := id hy
          have a0 := ja 0 (by decide); have b0 := jb 0 (by decide)
          have a1 := ja 1 (by decide); have b1 := jb 1 (by decide)
          simp only [show ELogRecord.sz = 2 from rfl, Nat.mul_one, Nat.add_zero, List.getElem?_cons_zero, List.getElem?_cons_succ] at a0 b0 a1 b1
          rw [hxy.out j hlt hlt2] at b0 b1
          clear ja jb hx hy z1 z2 t1 t2
          generalize xs[j] = zz at *
          have hbr := Below.refl wr.heap.size wr
          go_wp2_with fail
          rename_i K0 hK0
          refine AnyX.start (S := (fun w' => w'.cell? ⟨ba, oa + j * 2, none⟩ = some (.string zz.command) ∧ w'.cell? ⟨ba, oa + j * 2 + 1, none⟩ = some (.string zz.reply) ∧ w'.cell? ⟨bb, ob + j * 2, none⟩ = some (.string zz.command) ∧ w'.cell? ⟨bb, ob + j * 2 + 1, none⟩ = some (.string zz.reply))) (X := (fun _ => false)) (by kernel_rfl) ?_
          have al : Below wr.heap.size wr wr.drew := belowDrewN (Below.refl _ _) 1
          have hs_w9 := al.size
          replace hbr := tr hbr al (Nat.le_refl _)
          replace hB := tr hB al (Nat.le_refl _)
          generalize wr.drew = w9 at *
          clear al
          have hS : (fun w' => w'.cell? ⟨ba, oa + j * 2, none⟩ = some (.string zz.command) ∧ w'.cell? ⟨ba, oa + j * 2 + 1, none⟩ = some (.string zz.reply) ∧ w'.cell? ⟨bb, ob + j * 2, none⟩ = some (.string zz.command) ∧ w'.cell? ⟨bb, ob + j * 2 + 1, none⟩ = some (.string zz.reply)) w9 := ⟨kc hbr a0, kc hbr a1, kc hbr b0, kc hbr b1⟩
          refine AnyX.take (i := 0) (oi := _) (v := ?_) (by rw [List.getElem?_toArray]; rfl) (by kernel_rfl) (by kernel_rfl) (by kernel_rfl) (by kernel_rfl) (by kernel_rfl) (by exact fun _ _ _ h => h) (Or.inl ⟨by rfl, ?_⟩) hS ?_
          rotate_left
          · (intro wS hSw; (try dsimp only at hSw); go_simp; try with_reducible rfl)
          try simp only [Act.put, List.setIfInBounds_toArray, List.set_cons_zero, List.set_cons_succ]
          refine AnyX.take (i := 1) (oi := _) (v := ?_) (by rw [List.getElem?_toArray]; rfl) (by kernel_rfl) (by kernel_rfl) (by kernel_rfl) (by kernel_rfl) (by kernel_rfl) (by exact fun _ _ _ h => h) (Or.inl ⟨by rfl, ?_⟩) hS ?_
          rotate_left
          · (intro wS hSw; (try dsimp only at hSw); go_simp; try with_reducible rfl)
          try simp only [Act.put, List.setIfInBounds_toArray, List.set_cons_zero, List.set_cons_succ]
          refine AnyX.take (i := 2) (oi := _) (v := ?_) (by rw [List.getElem?_toArray]; rfl) (by kernel_rfl) (by kernel_rfl) (by kernel_rfl) (by kernel_rfl) (by kernel_rfl) (by exact fun _ _ _ h => h) (Or.inl ⟨by rfl, ?_⟩) hS ?_
          rotate_left
          · (intro wS hSw; (try dsimp only at hSw); go_simp; try with_reducible rfl)
          try simp only [Act.put, List.setIfInBounds_toArray, List.set_cons_zero, List.set_cons_succ]
          refine AnyX.take (i := 3) (oi := _) (v := ?_) (by rw [List.getElem?_toArray]; rfl) (by kernel_rfl) (by kernel_rfl) (by kernel_rfl) (by kernel_rfl) (by kernel_rfl) (by exact fun _ _ _ h => h) (Or.inl ⟨by rfl, ?_⟩) hS ?_
          rotate_left
          · (intro wS hSw; (try dsimp only at hSw); go_simp; try with_reducible rfl)
          try simp only [Act.put, List.setIfInBounds_toArray, List.set_cons_zero, List.set_cons_succ]
          refine AnyX.take (i := 4) (oi := _) (v := ?_) (by rw [List.getElem?_toArray]; rfl) (by kernel_rfl) (by kernel_rfl) (by kernel_rfl) (by kernel_rfl) (by kernel_rfl) (by exact fun _ _ _ h => h) (Or.inl ⟨by rfl, ?_⟩) hS ?_
          rotate_left
          · (intro wS hSw; (try dsimp only at hSw); go_simp; try with_reducible rfl)
          try simp only [Act.put, List.setIfInBounds_toArray, List.set_cons_zero, List.set_cons_succ]
          refine AnyX.take (i := 5) (oi := _) (v := ?_) (by rw [List.getElem?_toArray]; rfl) (by kernel_rfl) (by kernel_rfl) (by kernel_rfl) (by kernel_rfl) (by kernel_rfl) (by exact fun _ _ _ h => h) (Or.inl ⟨by rfl, ?_⟩) hS ?_
          rotate_left
          · (intro wS hSw; (try dsimp only at hSw); go_simp; try with_reducible rfl)
          try simp only [Act.put, List.setIfInBounds_toArray, List.set_cons_zero, List.set_cons_succ]
          refine AnyX.take (i := 6) (oi := _) (v := ?_) (by rw [List.getElem?_toArray]; rfl) (by kernel_rfl) (by kernel_rfl) (by kernel_rfl) (by kernel_rfl) (by kernel_rfl) (by exact fun _ _ _ h => h) (Or.inl ⟨by rfl, ?_⟩) hS ?_
          rotate_left
          · (intro wS hSw; (try dsimp only at hSw); go_simp; try with_reducible rfl)
          try simp only [Act.put, List.setIfInBounds_toArray, List.set_cons_zero, List.set_cons_succ]
          refine AnyX.take (i := 7) (oi := _) (v := ?_) (by rw [List.getElem?_toArray]; rfl) (by kernel_rfl) (by kernel_rfl) (by kernel_rfl) (by kernel_rfl) (by kernel_rfl) (by exact fun _ _ _ h => h) (Or.inl ⟨by rfl, ?_⟩) hS ?_
          rotate_left
          · (intro wS hSw; (try dsimp only at hSw); go_simp; try with_reducible rfl)
          try simp only [Act.put, List.setIfInBounds_toArray, List.set_cons_zero, List.set_cons_succ]
          refine AnyX.take (i := 8) (oi := _) (v := ?_) (by rw [List.getElem?_toArray]; rfl) (by kernel_rfl) (by kernel_rfl) (by kernel_rfl) (by kernel_rfl) (by kernel_rfl) (by exact fun _ _ _ h => h) (Or.inl ⟨by rfl, ?_⟩) hS ?_
          rotate_left
          · (intro wS hSw; (try dsimp only at hSw); go_simp; try with_reducible rfl)
          try simp only [Act.put, List.setIfInBounds_toArray, List.set_cons_zero, List.set_cons_succ]
          refine AnyX.done (by kernel_rfl) ?_ _
          (try clear hS)
          refine hK0 _ _ ?_
          clear hK0 K0
          go_wp2_with fail
          exact ⟨⟨j + 1, by omega, by go_num, tr hbl hbr (Nat.le_refl _)⟩, by simp [intOf] <;> omega⟩
        · have c_RL := RL.cells; have f_RL := RL.frozens
          have c_RM := RM.cells; have f_RM := RM.frozens
          go_wp2_with fail
          clear c_RL f_RL c_RM f_RM
          rename_i K0 hK0
          refine AnyX.start (S := (fun w' => w'.cell? ⟨w5.heap.size, 0, none⟩ = some (.string md) ∧ w'.cell? ⟨w5.heap.size, 1, none⟩ = some (.string mp) ∧ w'.cell? ⟨w5.heap.size, 2, none⟩ = some (.int .i64 mq))) (X := (fun _ => false)) (by kernel_rfl) ?_
          have al : Below wr.heap.size wr wr.drew := belowDrewN (Below.refl _ _) 1
          have hs_w10 := al.size
          replace RL := RL.below al
          replace RM := RM.below al
          replace hT := hT.below al
          replace SA := SA.below (by decide) al
          replace SO := SO.below (by decide) al
          replace hB := tr hB al (Nat.le_refl _)
          generalize wr.drew = w10 at *
          clear al
          have hS : (fun w' => w'.cell? ⟨w5.heap.size, 0, none⟩ = some (.string md) ∧ w'.cell? ⟨w5.heap.size, 1, none⟩ = some (.string mp) ∧ w'.cell? ⟨w5.heap.size, 2, none⟩ = some (.int .i64 mq)) w10 := ⟨RM.cells 0, RM.cells 1, RM.cells 2⟩
          refine AnyX.take (i := 0) (oi := _) (v := ?_) (by rw [List.getElem?_toArray]; rfl) (by kernel_rfl) (by kernel_rfl) (by kernel_rfl) (by kernel_rfl) (by kernel_rfl) (by exact fun _ _ _ h => h) (Or.inl ⟨by rfl, ?_⟩) hS ?_
          rotate_left
          · (intro wS hSw; (try dsimp only at hSw); go_simp; try with_reducible rfl)
          try simp only [Act.put, List.setIfInBounds_toArray, List.set_cons_zero, List.set_cons_succ]
          refine AnyX.only (i := 1) (o := _) (by kernel_rfl) (by rw [List.getElem?_toArray]; rfl) (fun K hK => ?_)
          go_simp
          go_at_call 23
          refine (hV.out _ hT).mono ?_
          rintro e w11 ⟨rfl, hb⟩
          have hs_w11 := hb.size
          replace RL := RL.below hb
          replace RM := RM.below hb
          replace hT := hT.below hb
          replace SA := SA.below (by decide) hb
          replace SO := SO.below (by decide) hb
          replace hB := tr hB hb (Nat.le_refl _)
          clear hb
          clear hS
          have hS : (fun w' => w'.cell? ⟨w5.heap.size, 0, none⟩ = some (.string md) ∧ w'.cell? ⟨w5.heap.size, 1, none⟩ = some (.string mp) ∧ w'.cell? ⟨w5.heap.size, 2, none⟩ = some (.int .i64 mq)) w11 := ⟨RM.cells 0, RM.cells 1, RM.cells 2⟩
          refine hK.out _ _ (fun _ => hS) ?_
          clear hK K
          try simp only [Act.put, List.setIfInBounds_toArray, List.set_cons_zero, List.set_cons_succ]
          refine AnyX.take (i := 2) (oi := _) (v := ?_) (by rw [List.getElem?_toArray]; rfl) (by kernel_rfl) (by kernel_rfl) (by kernel_rfl) (by kernel_rfl) (by kernel_rfl) (by exact fun _ _ _ h => h) (Or.inl ⟨by rfl, ?_⟩) hS ?_
          rotate_left
          · (intro wS hSw; (try dsimp only at hSw); go_simp; try with_reducible rfl)
          try simp only [Act.put, List.setIfInBounds_toArray, List.set_cons_zero, List.set_cons_succ]
          refine AnyX.take (i := 3) (oi := _) (v := ?_) (by rw [List.getElem?_toArray]; rfl) (by kernel_rfl) (by kernel_rfl) (by kernel_rfl) (by kernel_rfl) (by kernel_rfl) (by exact fun _ _ _ h => h) (Or.inl ⟨by rfl, ?_⟩) hS ?_
          rotate_left
          · (intro wS hSw; (try dsimp only at hSw); go_simp; try with_reducible rfl)
          try simp only [Act.put, List.setIfInBounds_toArray, List.set_cons_zero, List.set_cons_succ]
          refine AnyX.take (i := 4) (oi := _) (v := ?_) (by rw [List.getElem?_toArray]; rfl) (by kernel_rfl) (by kernel_rfl) (by kernel_rfl) (by kernel_rfl) (by kernel_rfl) (by exact fun _ _ _ h => h) (Or.inl ⟨by rfl, ?_⟩) hS ?_
          rotate_left
          · (intro wS hSw; (try dsimp only at hSw); go_simp; try with_reducible rfl)
          try simp only [Act.put, List.setIfInBounds_toArray, List.set_cons_zero, List.set_cons_succ]
          refine AnyX.take (i := 5) (oi := _) (v := ?_) (by rw [List.getElem?_toArray]; rfl) (by kernel_rfl) (by kernel_rfl) (by kernel_rfl) (by kernel_rfl) (by kernel_rfl) (by exact fun _ _ _ h => h) (Or.inl ⟨by rfl, ?_⟩) hS ?_
          rotate_left
          · (intro wS hSw; (try dsimp only at hSw); go_simp; try with_reducible rfl)
          try simp only [Act.put, List.setIfInBounds_toArray, List.set_cons_zero, List.set_cons_succ]
          refine AnyX.take (i := 6) (oi := _) (v := ?_) (by rw [List.getElem?_toArray]; rfl) (by kernel_rfl) (by kernel_rfl) (by kernel_rfl) (by kernel_rfl) (by kernel_rfl) (by exact fun _ _ _ h => h) (Or.inl ⟨by rfl, ?_⟩) hS ?_
          rotate_left
          · (intro wS hSw; (try dsimp only at hSw); go_simp; try with_reducible rfl)
          try simp only [Act.put, List.setIfInBounds_toArray, List.set_cons_zero, List.set_cons_succ]
          refine AnyX.take (i := 7) (oi := _) (v := ?_) (by rw [List.getElem?_toArray]; rfl) (by kernel_rfl) (by kernel_rfl) (by kernel_rfl) (by kernel_rfl) (by kernel_rfl) (by exact fun _ _ _ h => h) (Or.inl ⟨by rfl, ?_⟩) hS ?_
          rotate_left
          · (intro wS hSw; (try dsimp only at hSw); go_simp; rw [← hmd.out]; try with_reducible rfl)
          try simp only [Act.put, List.setIfInBounds_toArray, List.set_cons_zero, List.set_cons_succ]
          refine AnyX.take (i := 8) (oi := _) (v := ?_) (by rw [List.getElem?_toArray]; rfl) (by kernel_rfl) (by kernel_rfl) (by kernel_rfl) (by kernel_rfl) (by kernel_rfl) (by exact fun _ _ _ h => h) (Or.inl ⟨by rfl, ?_⟩) hS ?_
          rotate_left
          · (intro wS hSw; (try dsimp only at hSw); go_simp; try with_reducible rfl)
          try simp only [Act.put, List.setIfInBounds_toArray, List.set_cons_zero, List.set_cons_succ]
          refine AnyX.take (i := 9) (oi := _) (v := ?_) (by rw [List.getElem?_toArray]; rfl) (by kernel_rfl) (by kernel_rfl) (by kernel_rfl) (by kernel_rfl) (by kernel_rfl) (by exact fun _ _ _ h => h) (Or.inl ⟨by rfl, ?_⟩) hS ?_
          rotate_left
          · (intro wS hSw; (try dsimp only at hSw); go_simp; try with_reducible rfl)
          try simp only [Act.put, List.setIfInBounds_toArray, List.set_cons_zero, List.set_cons_succ]
          refine AnyX.only (i := 10) (o := _) (by kernel_rfl) (by rw [List.getElem?_toArray]; rfl) (fun K hK => ?_)
          try go_simp
          clear hS
          have hS : (fun w' => w'.cell? ⟨w5.heap.size, 0, none⟩ = some (.string md) ∧ w'.cell? ⟨w5.heap.size, 1, none⟩ = some (.string mp) ∧ w'.cell? ⟨w5.heap.size, 2, none⟩ = some (.int .i64 mq)) w11 := ⟨RM.cells 0, RM.cells 1, RM.cells 2⟩
          refine hK.out _ _ (fun _ => hS) ?_
          clear hK K
          try simp only [Act.put, List.setIfInBounds_toArray, List.set_cons_zero, List.set_cons_succ]
          refine AnyX.done (by kernel_rfl) ?_ _
          (try clear hS)
          refine hK0 _ _ ?_
          clear hK0 K0
          go_wp2_with fail
          go_ret
          exact ⟨rfl, hB⟩
set_option maxRecDepth 100000 in
theorem lifted_FnCrashRecovery (os : Os) (started : os.Started) (H : Type) (enc : TypeId × Value → H) :
    ReturnsInHanded {} Tryd.checked os 12 .any (fun w args => (Rows.fnCrashRecoverySpec.pre enc Tryd.prog Tryd.f12 Rows.fnCrashRecoveryRow.domain false w args ∧ laidMetH Tryd.prog Rows.fnCrashRecoveryRow.laid w) ∧ sizedMet enc Tryd.prog Tryd.f12 (OpenSpec.ofChange Rows.fnCrashRecoverySpec) false w args)
      (Rows.fnCrashRecoverySpec.post enc Tryd.prog Tryd.f12 false true false false) := by
  refine returnsInHanded_of_change_and (C := Tryd.checked) (X := fun w _ => laidMetH Tryd.prog Rows.fnCrashRecoveryRow.laid w) (fun _ _ _ hh h => h.of_heap hh) (by kernel_rfl) started (by kernel_rfl) Tryd.func12
    (ChangeSpec.witness_shaped (enc := enc) (C := Tryd.checked) (os := os) (X := fun w _ => laidMetH Tryd.prog Rows.fnCrashRecoveryRow.laid w) false (World.laidAll Tryd.prog os Rows.fnCrashRecoveryRow.laid) #[.slice none 0 0] 8 (World.laidAll_os _ _ _)
      (World.shaped_of_ZipB (by kernel_rfl) (by kernel_rfl)) (by kernel_rfl) (by kernel_rfl) (by kernel_rfl)
      (by rw [MakeChecks.laidMetH_plain _ _ _ (by kernel_rfl)]; exact laidMet_laidAll _ (by kernel_rfl) (by kernel_rfl))) ?_
  intro W base args ds gs before hval0 hW hc_ _ hL _
  have hval : ∀ (j : Nat) t v, Tryd.f12.params[j]? = some t → args[j]? = some v → Value.okWide Tryd.prog W .any base t v := hval0
  have hW' := hW
  obtain ⟨p, q, hA0, hV, rfl, hfz, hnd⟩ := hW
  have hA : DataW.TrodAll enc Tryd.prog W 0 (fun _ => true) true Tryd.f12.params.toList args.toList ds p := hA0
  rw [Tryd.params12] at hA hval
  obtain ⟨v0, d0, rfl, rfl, h0⟩ := trodAll_one hA
  obtain ⟨a0, l0, c0, rfl⟩ := okWide_slice Tryd.underlying53 (hval 0 53 v0 rfl rfl)
  obtain ⟨fuel0, hf0⟩ := h0
  obtain ⟨x0, F0, u0, hu0, hs0⟩ := (reads_slice Tryd.underlying53 (by kernel_rfl) (by decide) reads_byte) hf0
  obtain rfl : Value.slice a0 l0 c0 = u0 := by simpa [Value.cells] using hu0
  have hT := tab_of_laid hL
  refine (law_FnCrashRecovery _ x0 F0 _ W hs0 hT).mono fun e W' ⟨he, hB⟩ => ⟨_, he, law_post (tb := 4) (by kernel_rfl) ?_ Tryd.underlying4 (by kernel_rfl) rfl rfl hW' hB⟩
  rw [Tryd.params12]
  simp only [List.mem_cons, List.not_mem_nil, or_false, forall_eq]
  exact ⟨by kernel_rfl, of_decide_eq_true (by kernel_rfl)⟩
theorem holds_FnCrashRecovery : Rows.FnCrashRecoverySaid :=
  OpenClaim.holds_of_wide 12 Tryd.f12 rfl rfl rfl rfl rfl rfl rfl ⟨rfl, rfl, rfl, rfl, rfl⟩ rfl rfl rfl rfl rfl (by kernel_rfl) Tryd.func12 (by kernel_rfl)
    (of_decide_eq_true (by kernel_rfl)) (by unfold Func.isWrapper; first | (rw [if_pos (by decide +kernel)]; kernel_rfl) | (rw [if_neg (by decide +kernel)]; exact ⟨rfl, rfl⟩))
    (fun os started H enc _ => lifted_FnCrashRecovery os started H enc)
/-- no parameter wants a stand-in; the looks are off -/
theorem plain_FnCrashRecovery (f : FuncId) (fn : Func) (hf : Tryd.pinned.checked.prog.funcNamed "loop.example/g00840/laws.FnCrashRecovery" = some f) (hfn : Tryd.pinned.checked.prog.funcs[f]? = some fn) :
    false = Tryd.pinned.checked.prog.looks [] ∧ ∀ (j : Nat) t, fn.params[j]? = some t → Tryd.pinned.checked.prog.wantsStandIn t = false := by
  obtain rfl : f = 12 := Option.some.inj ((show Tryd.prog.funcNamed "loop.example/g00840/laws.FnCrashRecovery" = some 12 by kernel_rfl).symm.trans hf) |>.symm
  obtain rfl : fn = Tryd.f12 := (Option.some.inj (Tryd.func12.symm.trans hfn)).symm
  refine ⟨by kernel_rfl, fun j t ht => ?_⟩
  rw [Tryd.params12] at ht
  have hm : t ∈ [53] := by simpa using Array.mem_of_getElem? ht
  have hall : ([53].all fun u => !Tryd.prog.wantsStandIn u) = true := by kernel_rfl
  exact (show Tryd.prog.wantsStandIn t = false by simpa using List.all_eq_true.1 hall t hm)
theorem card_FnCrashRecovery : Rows.FnCrashRecoveryCardSaid :=
  Claim7.holds_tied_plain_at .later [] _ _ _ _ holds_FnCrashRecovery (fun _ h => by cases h) (by kernel_rfl) (fun _ h => by cases h) fnCrashRecovery_row_tie rfl ⟨rfl, rfl⟩ (by kernel_rfl) rfl plain_FnCrashRecovery (by kernel_rfl)
end Go.Proofs.YtnmgaponnfjciaaDoor
