/- The contracts of CrashLog in the form that the law's proof takes. Written by wip/src/LogC.py. -/
import Derived.Deep.DeepCutAuto
import Derived.Test.YtnmgaponnfjciaaDoorCRecoverLog
import Derived.Test.YtnmgaponnfjciaaDoorLogPlain2
import Derived.Test.YtnmgaponnfjciaaDoorBytes
namespace Go.Proofs.YtnmgaponnfjciaaDoor
open Go.RowKit
def resCrashLog (x0 : Log) (x1 : Int) (x2 : Bool) : ByteArray × Bool := if validR x0.durable.data.toList x0.pending.data.toList x0.count && btw 0 x1 x0.pending.size then (bs (x0.durable.data.toList ++ (if x2 then torn (x0.pending.data.toList.take x1.toNat) else x0.pending.data.toList.take x1.toNat)), true) else (⟨#[]⟩, false)
def PS_CrashLog : ByteArray × Bool → World → Ending → World → Prop := fun (r0, r1) w e w' => e = .returned (.tuple #[.string r0, .bool r1]) ∧ Below w.heap.size w w'
def PI_CrashLog : ByteArray × Bool → World → Ending → World → Prop := fun (r0, r1) w e w' => e = .returned (.tuple #[.string r0, .bool r1]) ∧ Below w.heap.size w w'
theorem torn_take {l : Bs} {k : Nat} (h : k + 1 ≤ l.length) : torn (l.take (k + 1)) = l.take k ++ [255 - l[k]] := by
  rw [List.take_succ_eq_append_getElem (by omega), torn_snoc]
theorem flip_byte (b : UInt8) : IntKind.u8.wrap (255 - (b.toNat : Int)) = ((255 - b).toNat : Int) := by
  have h2 : (255 - b).toNat = 255 - b.toNat := by rw [UInt8.toNat_sub_of_le]; rfl; exact UInt8.le_iff_toNat_le.2 (by have := b.toNat_lt; simp; omega)
  have := b.toNat_lt
  rw [h2, IntKind.wrap_u8]; omega
theorem take_app (d p : ByteArray) (k : Nat) : d ++ p.extract 0 k = bs (d.data.toList ++ p.data.toList.take k) := by
  rw [app_bs, Lib.extract_eq]; simp [bs]
theorem ext_takeC (p : ByteArray) (k : Nat) : p.extract 0 k = bs (p.data.toList.take k) := by
  rw [Lib.extract_eq]; simp [bs]
theorem set_last {l : Bs} (h : 0 < l.length) : l.set (l.length - 1) (255 - l[l.length - 1]) = torn l := by
  rcases List.eq_nil_or_concat l with rfl | ⟨y, c, rfl⟩
  · simp at h
  · simp only [List.concat_eq_append, List.length_append, List.length_cons, List.length_nil, Nat.zero_add, Nat.add_sub_cancel, torn_snoc]
    rw [List.set_append_right _ _ (Nat.le_refl _)]
    simp
set_option maxHeartbeats 3200000 in
set_option maxRecDepth 100000 in
theorem specCrashLog_c (v0 : Value) (x0 : Log) (F0 : List Nat) (x1 : Int) (x2 : Bool) (w : World) (h0 : IsV ELog w v0 x0 F0) (hw0 : wtLog x0 ≤ 1048576) :
    Calls Tryd.prog 24 #[v0, .int .i64 x1, .bool x2] w (PS_CrashLog (resCrashLog x0 x1 x2) w) := by
  obtain ⟨_, rfl, rfl, s1, s2, rfl⟩ := h0
  have hw := hw0; unfold wtLog at hw
  unfold maxLen at s1 s2
  have hV := fun w => l27Log_c x0.durable x0.pending x0.count w hw
  have hI := fun w => l1In_c x1 0 x0.pending.size w
  cases hv : validR x0.durable.data.toList x0.pending.data.toList x0.count
  · have hP : ∀ w', Below w.heap.size w w' → PS_CrashLog (resCrashLog x0 x1 x2) w (.returned (.tuple #[.string ⟨#[]⟩, .bool false])) w' := fun w' hB => by
      unfold resCrashLog; rw [hv, Bool.false_and]; exact ⟨rfl, hB⟩
    rw [hv] at hV; replace hV := Lib.hid hV; replace hP := Lib.hid hP; clear hv hI
    go_enter Tryd.func24, Tryd.ntmps24
    go_wp2_with fail
    have al : Below w.heap.size w (w.alloc (.cells #[.string x0.durable, .string x0.pending, .int .i64 x0.count] 31)) := by
      repeat refine Below.alloc ?_ (by simp <;> omega) _
      exact Below.refl _ _
    have n_R0 := Row.made w 31 [.string x0.durable, .string x0.pending, .int .i64 x0.count]
    have hs_w1 : w.heap.size < (w.alloc (.cells #[.string x0.durable, .string x0.pending, .int .i64 x0.count] 31)).heap.size := by simp
    have hB := al
    generalize (w.alloc (.cells #[.string x0.durable, .string x0.pending, .int .i64 x0.count] 31)) = w1 at *
    have R0 := n_R0; clear n_R0
    clear al
    have c_R0 := R0.cells; have f_R0 := R0.frozens
    go_wp2_with fail
    clear c_R0 f_R0
    refine (hV.out _).mono ?_
    rintro e w2 ⟨rfl, hb⟩
    have hs_w2 := hb.size
    replace R0 := R0.below hb
    replace hB := tr hB hb (Nat.le_refl _)
    clear hb
    have c_R0 := R0.cells; have f_R0 := R0.frozens
    go_wp2_with fail
    refine bodyPost_ret (v := .tuple #[.string ⟨#[]⟩, .bool false]) ?_ rfl ?_
    · simp [results, Tryd.results24, go_sem]
    · refine hP.out _ ?_
      repeat refine Below.setCell ?_ (by simp <;> omega) _
      exact hB
  · rw [hv] at hV
    cases hg : btw 0 x1 x0.pending.size
    · have hP : ∀ w', Below w.heap.size w w' → PS_CrashLog (resCrashLog x0 x1 x2) w (.returned (.tuple #[.string ⟨#[]⟩, .bool false])) w' := fun w' hB => by
        unfold resCrashLog; rw [hv, hg, Bool.and_false]; exact ⟨rfl, hB⟩
      rw [hg] at hI; replace hV := Lib.hid hV; replace hI := Lib.hid hI; replace hP := Lib.hid hP; clear hv hg
      go_enter Tryd.func24, Tryd.ntmps24
      go_wp2_with fail
      have al : Below w.heap.size w (w.alloc (.cells #[.string x0.durable, .string x0.pending, .int .i64 x0.count] 31)) := by
        repeat refine Below.alloc ?_ (by simp <;> omega) _
        exact Below.refl _ _
      have n_R0 := Row.made w 31 [.string x0.durable, .string x0.pending, .int .i64 x0.count]
      have hs_w3 : w.heap.size < (w.alloc (.cells #[.string x0.durable, .string x0.pending, .int .i64 x0.count] 31)).heap.size := by simp
      have hB := al
      generalize (w.alloc (.cells #[.string x0.durable, .string x0.pending, .int .i64 x0.count] 31)) = w3 at *
      have R0 := n_R0; clear n_R0
      clear al
      have c_R0 := R0.cells; have f_R0 := R0.frozens
      go_wp2_with fail
      clear c_R0 f_R0
      refine (hV.out _).mono ?_
      rintro e w4 ⟨rfl, hb⟩
      have hs_w4 := hb.size
      replace R0 := R0.below hb
      replace hB := tr hB hb (Nat.le_refl _)
      clear hb
      have c_R0 := R0.cells; have f_R0 := R0.frozens
      go_wp2_with fail
      clear c_R0 f_R0
      refine (hI.out _).mono ?_
      rintro e w' ⟨rfl, rfl⟩
      have c_R0 := R0.cells; have f_R0 := R0.frozens
      go_wp2_with fail
      refine bodyPost_ret (v := .tuple #[.string ⟨#[]⟩, .bool false]) ?_ rfl ?_
      · simp [results, Tryd.results24, go_sem]
      · refine hP.out _ ?_
        repeat refine Below.setCell ?_ (by simp <;> omega) _
        exact hB
    · have hk : 0 ≤ x1 ∧ x1 ≤ x0.pending.size := by simpa [btw] using hg
      obtain ⟨k, rfl⟩ := Int.eq_ofNat_of_zero_le hk.1
      have hk2 : k ≤ x0.pending.size := by omega
      have hP : ∀ r w', r = (if x2 then torn (x0.pending.data.toList.take k) else x0.pending.data.toList.take k) → Below w.heap.size w w' → PS_CrashLog (resCrashLog x0 (k : Int) x2) w (.returned (.tuple #[.string (bs (x0.durable.data.toList ++ r)), .bool true])) w' := fun r w' hr hB => by
        subst hr; unfold resCrashLog; rw [hv, hg]; exact ⟨rfl, hB⟩
      rw [hg] at hI; replace hV := Lib.hid hV; replace hI := Lib.hid hI; replace hP := Lib.hid hP; clear hv hg hk
      obtain ⟨l, hl⟩ : ∃ l, l = x0.pending.data.toList.take k := ⟨_, rfl⟩
      have hll : l.length = k := by rw [hl]; simp; omega
      have hb0 : x0.pending.extract 0 k = bs l := by rw [hl]; exact ext_takeC _ _
      replace hl := Lib.hid hl
      have hl1 : k ≤ l.length := by omega
      have hl2 : l.length ≤ k := by omega
      replace hll := Lib.hid hll
      go_enter Tryd.func24, Tryd.ntmps24
      go_wp2_with fail
      have al : Below w.heap.size w (w.alloc (.cells #[.string x0.durable, .string x0.pending, .int .i64 x0.count] 31)) := by
        repeat refine Below.alloc ?_ (by simp <;> omega) _
        exact Below.refl _ _
      have n_R0 := Row.made w 31 [.string x0.durable, .string x0.pending, .int .i64 x0.count]
      have hs_w5 : w.heap.size < (w.alloc (.cells #[.string x0.durable, .string x0.pending, .int .i64 x0.count] 31)).heap.size := by simp
      have hB := al
      generalize (w.alloc (.cells #[.string x0.durable, .string x0.pending, .int .i64 x0.count] 31)) = w5 at *
      have R0 := n_R0; clear n_R0
      clear al
      have c_R0 := R0.cells; have f_R0 := R0.frozens
      go_wp2_with fail
      clear c_R0 f_R0
      refine (hV.out _).mono ?_
      rintro e w6 ⟨rfl, hb⟩
      have hs_w6 := hb.size
      replace R0 := R0.below hb
      replace hB := tr hB hb (Nat.le_refl _)
      clear hb
      have c_R0 := R0.cells; have f_R0 := R0.frozens
      go_wp2_with fail
      clear c_R0 f_R0
      refine (hI.out _).mono ?_
      rintro e w' ⟨rfl, rfl⟩
      have c_R0 := R0.cells; have f_R0 := R0.frozens
      go_upto_region 3 with fail
      clear c_R0 f_R0
      go_cut [8] (fun s8 wx => ∃ (g cap : Nat), s8 = .slice (some ⟨g, 0, none⟩) l.length cap ∧ ByteRow wx g l ∧ w6.heap.size ≤ g ∧ l.length ≤ cap ∧ Below w6.heap.size w6 wx)
      · have hbC := Below.refl w6.heap.size w6
        obtain ⟨cap, C, hcv, hBR, hcap⟩ := to_bytes (bs l) w6
        rw [bs_list] at hBR; rw [bs_size] at hcv hcap
        have al : Below w6.heap.size w6 (w6.alloc C).drew := belowDrewN ((Below.refl _ _).alloc (Nat.le_refl _) _) 1
        have c_R0 := R0.cells; have f_R0 := R0.frozens
        go_wp2_with fail
        go_meet
        exact ⟨_, cap, rfl, hBR, by omega, hcap, al⟩
      obtain ⟨g, cap, rfl, hBR, hg, hcap, hb⟩ := hcut
      generalize wc = w7 at *
      have hs_w7 := hb.size
      replace R0 := R0.below hb
      replace hB := tr hB hb (Nat.le_refl _)
      clear hb
      by_cases hf : x2 = true ∧ 0 < k
      · obtain ⟨rfl, hk0⟩ := hf
        obtain ⟨m, rfl⟩ : ∃ m, k = m + 1 := ⟨k - 1, by omega⟩
        obtain ⟨n, hn, hnm⟩ : ∃ n, l.length = n + 1 ∧ n = m := ⟨m, by omega, rfl⟩
        have hnl : n < l.length := by omega
        have hnb : n ≤ 2097152 := by omega
        obtain ⟨c0, z0⟩ := hBR.2 n hnl
        have st := hBR.set n (255 - l[n]) hnl
        have hset : l.set n (255 - l[n]) = torn l := by
          have := set_last (l := l) (by omega)
          simpa only [hn, Nat.add_sub_cancel] using this
        have h255 := flip_byte l[n]
        have hle : (l[n].toNat : Int) ≤ 255 := by have := l[n].toNat_lt; omega
        rw [IntKind.wrap_u8] at h255
        rw [hset, ← h255] at st
        generalize (l[n].toNat : Int) = v at *
        skip
        have hbk := bytes_back cap st
        rw [torn_len, hn] at hbk
        have hres : torn l = torn (x0.pending.data.toList.take (m + 1)) := by rw [hl.out]
        have hfin : x0.durable ++ (⟨(torn l).toArray⟩ : ByteArray) = bs (x0.durable.data.toList ++ torn (x0.pending.data.toList.take (m + 1))) := by rw [app_bs, hres]
        have hP2 := fun w' h => hP.out (torn (x0.pending.data.toList.take (m + 1))) w' (by simp) h
        rw [← hfin] at hP2
        rw [hn] at hcap ⊢
        replace hP := Lib.hid hP2
        have htl : (torn l).length ≤ 16777216 := by rw [torn_len]; omega
        clear hP2 hfin hset hres h255 hBR st hb0
        generalize hX : (⟨(torn l).toArray⟩ : ByteArray) = X at *
        have hXs : X.size ≤ 16777216 := by rw [← hX]; simpa [ByteArray.size] using htl
        replace hX := Lib.hid hX
        replace hn := Lib.hid hn
        subst hnm
        clear hnl
        have c_R0 := R0.cells; have f_R0 := R0.frozens
        have cS := (R0.setOther (p := ⟨g, n, none⟩) (by show g ≠ w.heap.size; omega) (.int .u8 ((255 - v) % 256))).cells
        go_wp2_with fail
        refine bodyPost_ret (v := .tuple #[.string (x0.durable ++ X), .bool true]) ?_ rfl ?_
        · simp [results, Tryd.results24, go_sem]
        · refine hP.out _ ?_
          repeat refine Below.setCell ?_ (by simp <;> omega) _
          exact hB
      · have hbk := bytes_back cap hBR
        have hfin : x0.durable ++ (⟨l.toArray⟩ : ByteArray) = bs (x0.durable.data.toList ++ x0.pending.data.toList.take k) := by rw [app_bs, hl.out]
        have hno : (if x2 then torn (x0.pending.data.toList.take k) else x0.pending.data.toList.take k) = x0.pending.data.toList.take k := by
          cases x2 with
          | false => rfl
          | true =>
            have : k = 0 := by simpa using hf
            subst this; rfl
        have hP2 := fun w' h => hP.out (x0.pending.data.toList.take k) w' hno.symm h
        rw [← hfin] at hP2
        replace hP := Lib.hid hP2
        clear hP2 hfin hno hBR hb0
        generalize hX : (⟨l.toArray⟩ : ByteArray) = X at *
        have hXs : X.size ≤ 16777216 := by rw [← hX]; show l.length ≤ _; omega
        replace hX := Lib.hid hX
        cases x2
        · have c_R0 := R0.cells; have f_R0 := R0.frozens
          go_wp2_with fail
          refine bodyPost_ret (v := .tuple #[.string (x0.durable ++ X), .bool true]) ?_ rfl ?_
          · simp [results, Tryd.results24, go_sem]
          · refine hP.out _ ?_
            repeat refine Below.setCell ?_ (by simp <;> omega) _
            exact hB
        · have hk0 : k = 0 := by simpa using hf
          subst hk0
          clear hf
          have c_R0 := R0.cells; have f_R0 := R0.frozens
          go_wp2_with fail
          refine bodyPost_ret (v := .tuple #[.string (x0.durable ++ X), .bool true]) ?_ rfl ?_
          · simp [results, Tryd.results24, go_sem]
          · refine hP.out _ ?_
            repeat refine Below.setCell ?_ (by simp <;> omega) _
            exact hB
set_option maxHeartbeats 3200000 in
set_option maxRecDepth 100000 in
theorem CrashLog_c (v0 : Value) (x0 : Log) (F0 : List Nat) (x1 : Int) (x2 : Bool) (FT : List Nat) (w : World) (h0 : IsV ELog w v0 x0 F0) (hw0 : wtLog x0 ≤ 1048576) (hT : IsV ETab w (.agg #[]) () FT) :
    Calls Tryd.prog 25 #[v0, .int .i64 x1, .bool x2] w (PI_CrashLog (resCrashLog x0 x1 x2) w) := by
  obtain ⟨_, rfl, rfl, s1, s2, rfl⟩ := h0
  have hw := hw0; unfold wtLog at hw
  unfold maxLen at s1 s2
  have hV := fun w hT => IsValidLog_v x0.durable x0.pending x0.count FT w hw hT
  have hI := fun w => within_c x1 0 x0.pending.size w
  cases hv : validR x0.durable.data.toList x0.pending.data.toList x0.count
  · have hP : ∀ w', Below w.heap.size w w' → PI_CrashLog (resCrashLog x0 x1 x2) w (.returned (.tuple #[.string ⟨#[]⟩, .bool false])) w' := fun w' hB => by
      unfold resCrashLog; rw [hv, Bool.false_and]; exact ⟨rfl, hB⟩
    rw [hv] at hV; replace hV := Lib.hid hV; replace hP := Lib.hid hP; clear hv hI
    go_enter Tryd.func25, Tryd.ntmps25
    go_wp2_with fail
    have al : Below w.heap.size w (w.alloc (.cells #[.string x0.durable, .string x0.pending, .int .i64 x0.count] 31)) := by
      repeat refine Below.alloc ?_ (by simp <;> omega) _
      exact Below.refl _ _
    have n_R0 := Row.made w 31 [.string x0.durable, .string x0.pending, .int .i64 x0.count]
    have hs_w1 : w.heap.size < (w.alloc (.cells #[.string x0.durable, .string x0.pending, .int .i64 x0.count] 31)).heap.size := by simp
    replace hT := hT.below al
    have hB := al
    generalize (w.alloc (.cells #[.string x0.durable, .string x0.pending, .int .i64 x0.count] 31)) = w1 at *
    have R0 := n_R0; clear n_R0
    clear al
    have c_R0 := R0.cells; have f_R0 := R0.frozens
    go_wp2_with fail
    clear c_R0 f_R0
    refine (hV.out _ hT).mono ?_
    rintro e w2 ⟨rfl, hb⟩
    have hs_w2 := hb.size
    replace R0 := R0.below hb
    replace hT := hT.below hb
    replace hB := tr hB hb (Nat.le_refl _)
    clear hb
    have c_R0 := R0.cells; have f_R0 := R0.frozens
    go_wp2_with fail
    refine bodyPost_ret (v := .tuple #[.string ⟨#[]⟩, .bool false]) ?_ rfl ?_
    · simp [results, Tryd.results25, go_sem]
    · refine hP.out _ ?_
      repeat refine Below.setCell ?_ (by simp <;> omega) _
      exact hB
  · rw [hv] at hV
    cases hg : btw 0 x1 x0.pending.size
    · have hP : ∀ w', Below w.heap.size w w' → PI_CrashLog (resCrashLog x0 x1 x2) w (.returned (.tuple #[.string ⟨#[]⟩, .bool false])) w' := fun w' hB => by
        unfold resCrashLog; rw [hv, hg, Bool.and_false]; exact ⟨rfl, hB⟩
      rw [hg] at hI; replace hV := Lib.hid hV; replace hI := Lib.hid hI; replace hP := Lib.hid hP; clear hv hg
      go_enter Tryd.func25, Tryd.ntmps25
      go_wp2_with fail
      have al : Below w.heap.size w (w.alloc (.cells #[.string x0.durable, .string x0.pending, .int .i64 x0.count] 31)) := by
        repeat refine Below.alloc ?_ (by simp <;> omega) _
        exact Below.refl _ _
      have n_R0 := Row.made w 31 [.string x0.durable, .string x0.pending, .int .i64 x0.count]
      have hs_w3 : w.heap.size < (w.alloc (.cells #[.string x0.durable, .string x0.pending, .int .i64 x0.count] 31)).heap.size := by simp
      replace hT := hT.below al
      have hB := al
      generalize (w.alloc (.cells #[.string x0.durable, .string x0.pending, .int .i64 x0.count] 31)) = w3 at *
      have R0 := n_R0; clear n_R0
      clear al
      have c_R0 := R0.cells; have f_R0 := R0.frozens
      go_wp2_with fail
      clear c_R0 f_R0
      refine (hV.out _ hT).mono ?_
      rintro e w4 ⟨rfl, hb⟩
      have hs_w4 := hb.size
      replace R0 := R0.below hb
      replace hT := hT.below hb
      replace hB := tr hB hb (Nat.le_refl _)
      clear hb
      have c_R0 := R0.cells; have f_R0 := R0.frozens
      go_wp2_with fail
      clear c_R0 f_R0
      refine (hI.out _).mono ?_
      rintro e w' ⟨rfl, rfl⟩
      have c_R0 := R0.cells; have f_R0 := R0.frozens
      go_wp2_with fail
      refine bodyPost_ret (v := .tuple #[.string ⟨#[]⟩, .bool false]) ?_ rfl ?_
      · simp [results, Tryd.results25, go_sem]
      · refine hP.out _ ?_
        repeat refine Below.setCell ?_ (by simp <;> omega) _
        exact hB
    · have hk : 0 ≤ x1 ∧ x1 ≤ x0.pending.size := by simpa [btw] using hg
      obtain ⟨k, rfl⟩ := Int.eq_ofNat_of_zero_le hk.1
      have hk2 : k ≤ x0.pending.size := by omega
      have hP : ∀ r w', r = (if x2 then torn (x0.pending.data.toList.take k) else x0.pending.data.toList.take k) → Below w.heap.size w w' → PI_CrashLog (resCrashLog x0 (k : Int) x2) w (.returned (.tuple #[.string (bs (x0.durable.data.toList ++ r)), .bool true])) w' := fun r w' hr hB => by
        subst hr; unfold resCrashLog; rw [hv, hg]; exact ⟨rfl, hB⟩
      rw [hg] at hI; replace hV := Lib.hid hV; replace hI := Lib.hid hI; replace hP := Lib.hid hP; clear hv hg hk
      obtain ⟨l, hl⟩ : ∃ l, l = x0.durable.data.toList ++ x0.pending.data.toList.take k := ⟨_, rfl⟩
      have hll : l.length = x0.durable.size + k := by rw [hl]; simp; omega
      have hb0 : x0.durable ++ x0.pending.extract 0 k = bs l := by rw [hl]; exact take_app _ _ _
      replace hl := Lib.hid hl
      have hl1 : x0.durable.size + k ≤ l.length := by omega
      have hl2 : l.length ≤ x0.durable.size + k := by omega
      replace hll := Lib.hid hll
      go_enter Tryd.func25, Tryd.ntmps25
      go_wp2_with fail
      have al : Below w.heap.size w (w.alloc (.cells #[.string x0.durable, .string x0.pending, .int .i64 x0.count] 31)) := by
        repeat refine Below.alloc ?_ (by simp <;> omega) _
        exact Below.refl _ _
      have n_R0 := Row.made w 31 [.string x0.durable, .string x0.pending, .int .i64 x0.count]
      have hs_w5 : w.heap.size < (w.alloc (.cells #[.string x0.durable, .string x0.pending, .int .i64 x0.count] 31)).heap.size := by simp
      replace hT := hT.below al
      have hB := al
      generalize (w.alloc (.cells #[.string x0.durable, .string x0.pending, .int .i64 x0.count] 31)) = w5 at *
      have R0 := n_R0; clear n_R0
      clear al
      have c_R0 := R0.cells; have f_R0 := R0.frozens
      go_wp2_with fail
      clear c_R0 f_R0
      refine (hV.out _ hT).mono ?_
      rintro e w6 ⟨rfl, hb⟩
      have hs_w6 := hb.size
      replace R0 := R0.below hb
      replace hT := hT.below hb
      replace hB := tr hB hb (Nat.le_refl _)
      clear hb
      have c_R0 := R0.cells; have f_R0 := R0.frozens
      go_wp2_with fail
      clear c_R0 f_R0
      refine (hI.out _).mono ?_
      rintro e w' ⟨rfl, rfl⟩
      have c_R0 := R0.cells; have f_R0 := R0.frozens
      go_upto_region 3 with fail
      clear c_R0 f_R0
      go_cut [8] (fun s8 wx => ∃ (g cap : Nat), s8 = .slice (some ⟨g, 0, none⟩) l.length cap ∧ ByteRow wx g l ∧ w6.heap.size ≤ g ∧ l.length ≤ cap ∧ Below w6.heap.size w6 wx)
      · have hbC := Below.refl w6.heap.size w6
        refine AnyX.start (S := (fun w' => w'.cell? ⟨w.heap.size, 0, none⟩ = some (.string x0.durable) ∧ w'.cell? ⟨w.heap.size, 1, none⟩ = some (.string x0.pending) ∧ w'.cell? ⟨w.heap.size, 2, none⟩ = some (.int .i64 x0.count))) (X := (fun _ => false)) (by kernel_rfl) ?_
        have al : Below w6.heap.size w6 w6.drew := belowDrewN (Below.refl _ _) 1
        have hs_w7 := al.size
        replace hbC := tr hbC al (Nat.le_refl _)
        replace R0 := R0.below al
        replace hT := hT.below al
        replace hB := tr hB al (Nat.le_refl _)
        generalize w6.drew = w7 at *
        clear al
        have hS : (fun w' => w'.cell? ⟨w.heap.size, 0, none⟩ = some (.string x0.durable) ∧ w'.cell? ⟨w.heap.size, 1, none⟩ = some (.string x0.pending) ∧ w'.cell? ⟨w.heap.size, 2, none⟩ = some (.int .i64 x0.count)) w7 := ⟨R0.cells 0, R0.cells 1, R0.cells 2⟩
        refine AnyX.take (i := 0) (oi := _) (v := ?_) (by rw [List.getElem?_toArray]; rfl) (by kernel_rfl) (by kernel_rfl) (by kernel_rfl) (by kernel_rfl) (by kernel_rfl) (by exact fun _ _ _ h => h) (Or.inl ⟨by rfl, ?_⟩) hS ?_
        rotate_left
        · (intro wS hSw; (try dsimp only at hSw); go_simp; try with_reducible rfl)
        try simp only [Act.put, List.setIfInBounds_toArray, List.set_cons_zero, List.set_cons_succ]
        refine AnyX.take (i := 1) (oi := _) (v := ?_) (by rw [List.getElem?_toArray]; rfl) (by kernel_rfl) (by kernel_rfl) (by kernel_rfl) (by kernel_rfl) (by kernel_rfl) (by exact fun _ _ _ h => h) (Or.inl ⟨by rfl, ?_⟩) hS ?_
        rotate_left
        · (intro wS hSw; (try dsimp only at hSw); go_simp; try with_reducible rfl)
        try simp only [Act.put, List.setIfInBounds_toArray, List.set_cons_zero, List.set_cons_succ]
        refine AnyX.take (i := 2) (oi := _) (v := ?_) (by rw [List.getElem?_toArray]; rfl) (by kernel_rfl) (by kernel_rfl) (by kernel_rfl) (by kernel_rfl) (by kernel_rfl) (by exact fun _ _ _ h => h) (Or.inl ⟨by rfl, ?_⟩) hS ?_
        rotate_left
        · (intro wS hSw; (try dsimp only at hSw); go_simp; try with_reducible rfl)
        try simp only [Act.put, List.setIfInBounds_toArray, List.set_cons_zero, List.set_cons_succ]
        refine AnyX.take (i := 3) (oi := _) (v := ?_) (by rw [List.getElem?_toArray]; rfl) (by kernel_rfl) (by kernel_rfl) (by kernel_rfl) (by kernel_rfl) (by kernel_rfl) (by exact fun _ _ _ h => h) (Or.inl ⟨by rfl, ?_⟩) hS ?_
        rotate_left
        · (intro wS hSw; (try dsimp only at hSw); go_simp; try with_reducible rfl)
        try simp only [Act.put, List.setIfInBounds_toArray, List.set_cons_zero, List.set_cons_succ]
        refine AnyX.take (i := 4) (oi := _) (v := ?_) (by rw [List.getElem?_toArray]; rfl) (by kernel_rfl) (by kernel_rfl) (by kernel_rfl) (by kernel_rfl) (by kernel_rfl) (by exact fun _ _ _ h => h) (Or.inl ⟨by rfl, ?_⟩) hS ?_
        rotate_left
        · (intro wS hSw; (try dsimp only at hSw); go_simp; try with_reducible rfl)
        try simp only [Act.put, List.setIfInBounds_toArray, List.set_cons_zero, List.set_cons_succ]
        refine AnyX.take (i := 5) (oi := _) (v := ?_) (by rw [List.getElem?_toArray]; rfl) (by kernel_rfl) (by kernel_rfl) (by kernel_rfl) (by kernel_rfl) (by kernel_rfl) (by exact fun _ _ _ h => h) (Or.inl ⟨by rfl, ?_⟩) hS ?_
        rotate_left
        · (intro wS hSw; (try dsimp only at hSw); go_simp; try with_reducible rfl)
        try simp only [Act.put, List.setIfInBounds_toArray, List.set_cons_zero, List.set_cons_succ]
        refine AnyX.take (i := 6) (oi := _) (v := ?_) (by rw [List.getElem?_toArray]; rfl) (by kernel_rfl) (by kernel_rfl) (by kernel_rfl) (by kernel_rfl) (by kernel_rfl) (by exact fun _ _ _ h => h) (Or.inl ⟨by rfl, ?_⟩) hS ?_
        rotate_left
        · (intro wS hSw; (try dsimp only at hSw); go_simp; rw [if_neg (by omega)]; try with_reducible rfl)
        try simp only [Act.put, List.setIfInBounds_toArray, List.set_cons_zero, List.set_cons_succ]
        refine AnyX.only (i := 7) (o := _) (by kernel_rfl) (by rw [List.getElem?_toArray]; rfl) (fun K hK => ?_)
        obtain ⟨cap, C, hcv, hBR, hcap⟩ := to_bytes (bs l) w7
        rw [bs_list] at hBR; rw [bs_size] at hcv hcap
        have al : Below w7.heap.size w7 (w7.alloc C).drew := belowDrewN ((Below.refl _ _).alloc (Nat.le_refl _) _) 1
        go_simp
        skip
        have hs_w8 := al.size
        replace hbC := tr hbC al (Nat.le_refl _)
        replace R0 := R0.below al
        replace hT := hT.below al
        replace hB := tr hB al (Nat.le_refl _)
        clear hcv
        generalize (w7.alloc C).drew = w8 at *
        clear al
        clear hS
        have hS : (fun w' => w'.cell? ⟨w.heap.size, 0, none⟩ = some (.string x0.durable) ∧ w'.cell? ⟨w.heap.size, 1, none⟩ = some (.string x0.pending) ∧ w'.cell? ⟨w.heap.size, 2, none⟩ = some (.int .i64 x0.count)) w8 := ⟨R0.cells 0, R0.cells 1, R0.cells 2⟩
        refine hK.out _ _ (fun _ => hS) ?_
        clear hK K
        try simp only [Act.put, List.setIfInBounds_toArray, List.set_cons_zero, List.set_cons_succ]
        refine AnyX.only (i := 8) (o := _) (by kernel_rfl) (by rw [List.getElem?_toArray]; rfl) (fun K hK => ?_)
        try go_simp
        clear hS
        have hS : (fun w' => w'.cell? ⟨w.heap.size, 0, none⟩ = some (.string x0.durable) ∧ w'.cell? ⟨w.heap.size, 1, none⟩ = some (.string x0.pending) ∧ w'.cell? ⟨w.heap.size, 2, none⟩ = some (.int .i64 x0.count)) w8 := ⟨R0.cells 0, R0.cells 1, R0.cells 2⟩
        refine hK.out _ _ (fun _ => hS) ?_
        clear hK K
        try simp only [Act.put, List.setIfInBounds_toArray, List.set_cons_zero, List.set_cons_succ]
        refine AnyX.done (by kernel_rfl) ?_ _
        (try clear hS)
        go_wp2_with fail
        go_meet
        exact ⟨_, cap, rfl, hBR, by omega, hcap, hbC⟩
      obtain ⟨g, cap, rfl, hBR, hg, hcap, hb⟩ := hcut
      generalize wc = w9 at *
      have hs_w9 := hb.size
      replace R0 := R0.below hb
      replace hT := hT.below hb
      replace hB := tr hB hb (Nat.le_refl _)
      clear hb
      by_cases hf : x2 = true ∧ 0 < k
      · obtain ⟨rfl, hk0⟩ := hf
        obtain ⟨m, rfl⟩ : ∃ m, k = m + 1 := ⟨k - 1, by omega⟩
        obtain ⟨n, hn, hnm⟩ : ∃ n, l.length = n + 1 ∧ n = x0.durable.size + m := ⟨x0.durable.size + m, by omega, rfl⟩
        have hnl : n < l.length := by omega
        have hnb : n ≤ 2097152 := by omega
        obtain ⟨c0, z0⟩ := hBR.2 n hnl
        have st := hBR.set n (255 - l[n]) hnl
        have hset : l.set n (255 - l[n]) = torn l := by
          have := set_last (l := l) (by omega)
          simpa only [hn, Nat.add_sub_cancel] using this
        have h255 := flip_byte l[n]
        have hle : (l[n].toNat : Int) ≤ 255 := by have := l[n].toNat_lt; omega
        rw [IntKind.wrap_u8] at h255
        rw [hset, ← h255] at st
        generalize (l[n].toNat : Int) = v at *
        skip
        have hbk := bytes_back cap st
        rw [torn_len, hn] at hbk
        have hres : torn l = x0.durable.data.toList ++ torn (x0.pending.data.toList.take (m + 1)) := by rw [hl.out]; exact torn_append _ (by intro e; have := congrArg List.length e; rw [List.length_take, size_list, List.length_nil] at this; omega)
        have hfin : (⟨(torn l).toArray⟩ : ByteArray) = bs (x0.durable.data.toList ++ torn (x0.pending.data.toList.take (m + 1))) := by rw [hres]; rfl
        have hP2 := fun w' h => hP.out (torn (x0.pending.data.toList.take (m + 1))) w' (by simp) h
        rw [← hfin] at hP2
        rw [hn] at hcap ⊢
        replace hP := Lib.hid hP2
        have htl : (torn l).length ≤ 16777216 := by rw [torn_len]; omega
        clear hP2 hfin hset hres h255 hBR st hb0
        generalize hX : (⟨(torn l).toArray⟩ : ByteArray) = X at *
        have hXs : X.size ≤ 16777216 := by rw [← hX]; simpa [ByteArray.size] using htl
        replace hX := Lib.hid hX
        replace hn := Lib.hid hn
        replace hnm := Lib.hid hnm
        clear hnl
        have c_R0 := R0.cells; have f_R0 := R0.frozens
        have cS := (R0.setOther (p := ⟨g, n, none⟩) (by show g ≠ w.heap.size; omega) (.int .u8 ((255 - v) % 256))).cells
        go_wp2_with fail
        refine bodyPost_ret (v := .tuple #[.string (X), .bool true]) ?_ rfl ?_
        · simp [results, Tryd.results25, go_sem]
        · refine hP.out _ ?_
          repeat refine Below.setCell ?_ (by simp <;> omega) _
          exact hB
      · have hbk := bytes_back cap hBR
        have hfin : (⟨l.toArray⟩ : ByteArray) = bs (x0.durable.data.toList ++ x0.pending.data.toList.take k) := by rw [hl.out]; rfl
        have hno : (if x2 then torn (x0.pending.data.toList.take k) else x0.pending.data.toList.take k) = x0.pending.data.toList.take k := by
          cases x2 with
          | false => rfl
          | true =>
            have : k = 0 := by simpa using hf
            subst this; rfl
        have hP2 := fun w' h => hP.out (x0.pending.data.toList.take k) w' hno.symm h
        rw [← hfin] at hP2
        replace hP := Lib.hid hP2
        clear hP2 hfin hno hBR hb0
        generalize hX : (⟨l.toArray⟩ : ByteArray) = X at *
        have hXs : X.size ≤ 16777216 := by rw [← hX]; show l.length ≤ _; omega
        replace hX := Lib.hid hX
        cases x2
        · have c_R0 := R0.cells; have f_R0 := R0.frozens
          go_wp2_with fail
          refine bodyPost_ret (v := .tuple #[.string (X), .bool true]) ?_ rfl ?_
          · simp [results, Tryd.results25, go_sem]
          · refine hP.out _ ?_
            repeat refine Below.setCell ?_ (by simp <;> omega) _
            exact hB
        · have hk0 : k = 0 := by simpa using hf
          subst hk0
          clear hf
          have c_R0 := R0.cells; have f_R0 := R0.frozens
          go_wp2_with fail
          refine bodyPost_ret (v := .tuple #[.string (X), .bool true]) ?_ rfl ?_
          · simp [results, Tryd.results25, go_sem]
          · refine hP.out _ ?_
            repeat refine Below.setCell ?_ (by simp <;> omega) _
            exact hB
end Go.Proofs.YtnmgaponnfjciaaDoor
